/- Parsing: the parser in memory; what a call hands back. Tokens of a text: what the parser wants of them. Parsing: fail, down, take, need. Parsing: of, unary, atom (printed by laws9a.py). Parsing: of, atom. Parsing: parts with a sign between. Parsing: what stands in brackets (printed by laws9b.py). -/
import Derived.Test.YtijecfmblddanaaDoorG2
import Derived.Test.YtijecfmblddanaaDoorG7
import Derived.Test.YtijecfmblddanaaDoorPTok3
import Derived.Test.YtijecfmblddanaaDoorG1
import Derived.Test.YtijecfmblddanaaDoorG5
set_option linter.unusedVariables false
set_option linter.unusedSimpArgs false
namespace Go.Proofs.YtijecfmblddanaaDoor
open Go.RowKit Go.Maps

/-- What is known of tokens: names are no empty texts, quotes come in twos, the last one is the end. -/
structure ToksOk (l : List Tk) : Prop where
  pos : 0 < l.length
  last : ∀ t, l[l.length - 1]? = some t → t.kind = 0 ∧ t.text = []
  name : ∀ t ∈ l, t.kind = 1 → 0 < t.text.length ∧ (t.text.head? = some 34 → 2 ≤ t.text.length)
  zero : ∀ t ∈ l, t.kind = 0 → t.text = []
  kind : ∀ t ∈ l, -9223372036854775808 ≤ t.kind ∧ t.kind ≤ 9223372036854775807
  len : ∀ t ∈ l, t.text.length ≤ 20000
  place : ∀ t ∈ l, t.place ≤ 20000
  many : l.length ≤ 20001
/-- What is left behind k tokens. -/
def leftT (l : List Tk) (k : Nat) : List KT := (l.drop k).map ktOf
theorem leftT_at {l : List Tk} {k : Nat} {t : Tk} (h : l[k]? = some t) : leftT l k = ktOf t :: leftT l (k + 1) := by
  have hk : k < l.length := (List.getElem?_eq_some_iff.1 h).1
  unfold leftT
  rw [List.drop_eq_getElem_cons hk, List.map_cons]
  have : l[k] = t := by
    rw [List.getElem?_eq_getElem hk] at h
    injection h
  rw [this]
theorem leftT_tail (l : List Tk) (k : Nat) : (leftT l k).tail = leftT l (k + 1) := by
  unfold leftT
  rw [← List.map_tail, List.tail_drop]
theorem leftT_len (l : List Tk) (k : Nat) : (leftT l k).length = l.length - k := by simp [leftT]

/-- The tokens in memory. -/
structure TkRow (w : World) (tb to : Nat) (l : List Tk) : Prop where
  lt : tb < w.heap.size
  kind : ∀ (k : Nat) (t : Tk), l[k]? = some t → w.cell? ⟨tb, to + 3 * k, none⟩ = some (.int .i64 t.kind)
  text : ∀ (k : Nat) (t : Tk), l[k]? = some t → w.cell? ⟨tb, to + 3 * k + 1, none⟩ = some (.string ⟨t.text.toArray⟩)
  place : ∀ (k : Nat) (t : Tk), l[k]? = some t → w.cell? ⟨tb, to + 3 * k + 2, none⟩ = some (.int .i64 (t.place : Int))
theorem TkRow.keep {w w' : World} {tb to : Nat} {l : List Tk} (h : TkRow w tb to l) (hb : w'.heap[tb]? = w.heap[tb]?) (hs : w.heap.size ≤ w'.heap.size) : TkRow w' tb to l := by
  have hc : ∀ o, w'.cell? ⟨tb, o, none⟩ = w.cell? ⟨tb, o, none⟩ := fun o => by simp only [World.cell?, hb]
  exact ⟨Nat.lt_of_lt_of_le h.lt hs, fun k t hk => (hc _).trans (h.kind k t hk), fun k t hk => (hc _).trans (h.text k t hk), fun k t hk => (hc _).trans (h.place k t hk)⟩
theorem flatTk_get : ∀ (l : List Tk) (k j : Nat) (t : Tk), l[k]? = some t → j < 3 → (flatTk l)[3 * k + j]? = (tkCells t)[j]?
  | [], k, j, t, h, _ => by simp at h
  | x :: l, 0, j, t, h, hj => by
    cases h
    show (tkCells x ++ flatTk l)[3 * 0 + j]? = _
    rw [List.getElem?_append_left (by simp [tkCells]; omega), Nat.mul_zero, Nat.zero_add]
  | x :: l, k + 1, j, t, h, hj => by
    show (tkCells x ++ flatTk l)[3 * (k + 1) + j]? = _
    rw [List.getElem?_append_right (by simp [tkCells]; omega), show 3 * (k + 1) + j - (tkCells x).length = 3 * k + j by simp [tkCells]; omega]
    exact flatTk_get l k j t h hj
theorem TkRow.of {w : World} {l : List Tk} {A : Option Addr} (h : Vals w w.heap.size A (flatTk l)) (hp : 0 < l.length) : ∃ tb to, A = some ⟨tb, to, none⟩ ∧ TkRow w tb to l := by
  obtain ⟨t0, h0⟩ : ∃ t, l[0]? = some t := ⟨_, List.getElem?_eq_getElem hp⟩
  obtain ⟨b, o, rfl, hb, _⟩ := h 0 (.int .i64 t0.kind) (by have := flatTk_get l 0 0 t0 h0 (by omega); simpa [tkCells] using this)
  have hcell : ∀ (k j : Nat) (t : Tk) (u : Value), l[k]? = some t → j < 3 → (tkCells t)[j]? = some u → w.cell? ⟨b, o + 3 * k + j, none⟩ = some u := fun k j t u hk hj hu => by
    obtain ⟨b', o', e, _, hc⟩ := h (3 * k + j) u (by rw [flatTk_get l k j t hk hj]; exact hu)
    cases e
    rw [Nat.add_assoc]
    exact hc
  exact ⟨b, o, rfl, hb, fun k t hk => hcell k 0 t _ hk (by omega) rfl, fun k t hk => hcell k 1 t _ hk (by omega) rfl, fun k t hk => hcell k 2 t _ hk (by omega) rfl⟩

theorem grown_of {w w' : World} (h : Below w.heap.size w w') (row : Option Nat) : w.grownBy w' row := ⟨h.os, h.tape, h.output, h.size, fun i hi _ => h.block i hi⟩
theorem grown_new {w W : World} {row : Option Nat} (h : w.grownBy W row) {b j : Nat} (hb : w.heap.size ≤ b) (v : Value) : w.grownBy (W.setCell ⟨b, j, none⟩ v) row :=
  ⟨h.os, h.tape, h.output, by simpa [World.setCell] using h.size, fun i hi hne => (Below.heap_setCell W ⟨b, j, none⟩ v i (by simp; omega)).trans (h.block i hi hne)⟩
/-- The parser at block pb, with k tokens gone. -/
structure PsSt (w : World) (pb tb to c : Nat) (l : List Tk) (k : Nat) : Prop where
  p : Blk w pb 77 #[.slice (some ⟨tb, to + 3 * k, none⟩) (l.length - k) (c - k)]
  t : TkRow w tb to l
  ne : tb ≠ pb
  k : k < l.length
  c : l.length ≤ c
section
variable {w w' : World} {pb tb to c k k' : Nat} {l : List Tk}
theorem PsSt.step (h : PsSt w pb tb to c l k) (hg : w.grownBy w' (some pb)) (hp : Blk w' pb 77 #[.slice (some ⟨tb, to + 3 * k', none⟩) (l.length - k') (c - k')]) (hk : k' < l.length) : PsSt w' pb tb to c l k' :=
  ⟨hp, h.t.keep (hg.block tb h.t.lt (by simp; exact h.ne)) hg.size, h.ne, hk, h.c⟩
theorem PsSt.far (h : PsSt w pb tb to c l k) {b j : Nat} (h1 : b ≠ pb) (h2 : b ≠ tb) (v : Value) : PsSt (w.setCell ⟨b, j, none⟩ v) pb tb to c l k :=
  ⟨h.p.far (p := ⟨b, j, none⟩) (Ne.symm h1) v, h.t.keep (Below.heap_setCell w ⟨b, j, none⟩ v tb (Ne.symm h2)) (by simp [World.setCell]), h.ne, h.k, h.c⟩
theorem PsSt.after (h : PsSt w pb tb to c l k) (hb : Below w.heap.size w w') : PsSt w' pb tb to c l k :=
  ⟨h.p.below hb h.p.lt, h.t.keep (hb.block tb h.t.lt) hb.size, h.ne, h.k, h.c⟩
end

def wrongV (e at_ : Int) : Value := .iface 73 (.agg #[.int .i64 e, .int .i64 at_])
/-- What a call leaves: a formula and fewer tokens, or it panics. -/
structure PsOk (w : World) (pb tb to c : Nat) (l : List Tk) (k0 : Nat) (f : Fm) (t : List KT) (A : Option Addr) (cc k : Nat) (w' : World) : Prop where
  km : k0 ≤ k
  g : w.grownBy w' (some pb)
  s : PsSt w' pb tb to c l k
  v : FmVQ w' (fun b => w.heap.size ≤ b ∧ b < w'.heap.size) f A cc
  t : t = leftT l k
def PPost (w : World) (pb tb to c : Nat) (l : List Tk) (k0 : Nat) (r : PR) (e : Ending) (w' : World) : Prop := match r with
  | .ok f t => ∃ A cc k, e = .returned (fmA f A cc) ∧ PsOk w pb tb to c l k0 f t A cc k w'
  | .bad er m => e = .panicked [{ v := wrongV er (tokPlace l er m), recovered := false }] ∧ w.grownBy w' (some pb)
end Go.Proofs.YtijecfmblddanaaDoor

set_option linter.unusedVariables false
set_option linter.unusedSimpArgs false
namespace Go.Proofs.YtijecfmblddanaaDoor

theorem name_facts (d : List UInt8) (h : 0 < nameL d) : 0 < (d.take (nameL d)).length ∧ ((d.take (nameL d)).head? = some 34 → 2 ≤ (d.take (nameL d)).length) := by
  have hle := nameL_le' d
  rw [List.length_take]
  refine ⟨by omega, fun hh => ?_⟩
  have h0 : (d[0]?).map UInt8.toNat = some 34 := by
    cases d with
    | nil => simp at hh
    | cons c d =>
      obtain ⟨n, hn⟩ : ∃ n, nameL (c :: d) = n + 1 := ⟨nameL (c :: d) - 1, by omega⟩
      rw [hn] at hh
      have : c = 34 := by simpa using hh
      rw [this]
      rfl
  have hq := nameL_q d h0
  have : 0 < quotL d := by rw [← hq]; exact h
  have h2 : 2 ≤ quotL d := by
    unfold quotL at this ⊢
    split at this
    · omega
    · split at this
      · rw [if_neg (by assumption), if_pos (by assumption)]
        omega
      · omega
  omega

theorem items_facts : ∀ (n : Nat) (l : List UInt8) (a : Nat), l.length < n → (items l a).length ≤ l.length + 1 ∧
    (∀ x ∈ items l a, 0 ≤ x.1.kind ∧ x.1.kind ≤ 2 ∧ (x.1.kind = 0 → x.1.text = []) ∧ (x.1.kind = 1 → 0 < x.1.text.length ∧ (x.1.text.head? = some 34 → 2 ≤ x.1.text.length))) ∧
    ((items l a).any (fun x => !x.2) = false → ∃ pre t, items l a = pre ++ [(t, true)] ∧ t.kind = 0 ∧ t.text = [])
  | 0, l, a, h => by omega
  | n + 1, l, a, h => by
    have hd := dropW_le blankB l
    rw [items_eq]
    by_cases h0 : l.dropWhile blankB = []
    · rw [if_pos h0]
      refine ⟨by simp, fun x hx => ?_, fun _ => ⟨[], _, rfl, rfl, rfl⟩⟩
      obtain rfl := List.mem_singleton.1 hx
      exact ⟨by simp, by simp, fun _ => rfl, fun h => by simp at h⟩
    · have hp : 0 < (l.dropWhile blankB).length := List.length_pos_iff.2 h0
      rw [if_neg h0]
      by_cases h1 : 0 < nameL (l.dropWhile blankB)
      · rw [if_pos h1]
        obtain ⟨i1, i2, i3⟩ := items_facts n ((l.dropWhile blankB).drop (nameL (l.dropWhile blankB))) (a + (l.length - (l.dropWhile blankB).length) + nameL (l.dropWhile blankB)) (by rw [List.length_drop]; omega)
        refine ⟨?_, fun x hx => ?_, fun hb => ?_⟩
        · rw [List.length_drop] at i1
          simp only [List.length_cons]
          omega
        · rcases List.mem_cons.1 hx with rfl | hx
          · exact ⟨by simp, by simp, fun h => by simp at h, fun _ => name_facts _ h1⟩
          · exact i2 x hx
        · rw [List.any_cons] at hb
          obtain ⟨pre, t, e, h2, h3⟩ := i3 (by simpa using hb)
          exact ⟨_ :: pre, t, by rw [e]; rfl, h2, h3⟩
      · rw [if_neg h1]
        by_cases h2 : 0 < signL (l.dropWhile blankB)
        · rw [if_pos h2]
          obtain ⟨i1, i2, i3⟩ := items_facts n ((l.dropWhile blankB).drop (signL (l.dropWhile blankB))) (a + (l.length - (l.dropWhile blankB).length) + signL (l.dropWhile blankB)) (by rw [List.length_drop]; omega)
          refine ⟨?_, fun x hx => ?_, fun hb => ?_⟩
          · rw [List.length_drop] at i1
            simp only [List.length_cons]
            omega
          · rcases List.mem_cons.1 hx with rfl | hx
            · exact ⟨by simp, by simp, fun h => by simp at h, fun h => by simp at h⟩
            · exact i2 x hx
          · rw [List.any_cons] at hb
            obtain ⟨pre, t, e, h2, h3⟩ := i3 (by simpa using hb)
            exact ⟨_ :: pre, t, by rw [e]; rfl, h2, h3⟩
        · rw [if_neg h2]
          refine ⟨by simp, fun x hx => ?_, fun hb => by simp at hb⟩
          obtain rfl := List.mem_singleton.1 hx
          exact ⟨by simp, by simp, fun h => by simp at h, fun h => by simp at h⟩

theorem toksOk {l : List UInt8} (hl : l.length ≤ 20000) (hb : lexBad l = false) : ToksOk (lexToks l) := by
  obtain ⟨h1, h2, h3⟩ := items_facts _ l 0 (Nat.lt_succ_self _)
  obtain ⟨pre, t, e, ht1, ht2⟩ := h3 hb
  have hlt : lexToks l = pre.map Prod.fst ++ [t] := by unfold lexToks; rw [e]; simp
  have hmem : ∀ x ∈ lexToks l, ∃ y ∈ items l 0, y.1 = x := fun x hx => by
    unfold lexToks at hx
    obtain ⟨y, hy, rfl⟩ := List.mem_map.1 hx
    exact ⟨y, hy, rfl⟩
  have hpl : ∀ x ∈ lexToks l, x.place + x.text.length ≤ l.length := fun x hx => by
    obtain ⟨i, hi⟩ := List.getElem?_of_mem hx
    exact (tok_place hi).1
  refine ⟨by rw [hlt]; simp, fun x hx => ?_, fun x hx hk => ?_, fun x hx hk => ?_, fun x hx => ?_, fun x hx => ?_, fun x hx => ?_, ?_⟩
  · rw [hlt] at hx
    simp only [List.length_append, List.length_map, List.length_cons, List.length_nil, Nat.add_sub_cancel] at hx
    rw [List.getElem?_append_right (by simp)] at hx
    have : x = t := by simpa using hx.symm
    rw [this]
    exact ⟨ht1, ht2⟩
  · obtain ⟨y, hy, rfl⟩ := hmem x hx
    exact (h2 y hy).2.2.2 hk
  · obtain ⟨y, hy, rfl⟩ := hmem x hx
    exact (h2 y hy).2.2.1 hk
  · obtain ⟨y, hy, rfl⟩ := hmem x hx
    have := h2 y hy
    omega
  · have := hpl x hx
    omega
  · have := hpl x hx
    omega
  · have : (lexToks l).length = (items l 0).length := by unfold lexToks; simp
    omega
end Go.Proofs.YtijecfmblddanaaDoor

set_option linter.unusedVariables false
set_option linter.unusedSimpArgs false
namespace Go.Proofs.YtijecfmblddanaaDoor
open Go.RowKit Go.Maps

section
variable {w : World} {pb tb to c k : Nat} {l : List Tk}
theorem slice_tail (A : Nat) (o n c : Nat) (hn : 2 ≤ n) (hc : n ≤ c) : ∀ W : World, (Instr.slice 27 (.slice (some ⟨A, o, none⟩) n c) (some (.int .i64 1)) none none).run Tryd.prog W = .ok (.slice (some ⟨A, o + 3, none⟩) (n - 1) (c - 1)) W := fun W => by
  have h1 : (1 : Int) ≤ (n : Int) := by omega
  have h2 : (n : Int) ≤ (c : Int) := by omega
  have h3 : ¬ c = 1 := by omega
  have hint : (Tryd.prog.info? 32).map (·.size) = some 3 := by kernel_rfl
  simp [go_sem, Tryd.underlying27, h1, h2, h3]

set_option maxHeartbeats 1000000 in
theorem fail_any (hS : PsSt w pb tb to c l k) : Calls Tryd.prog 50 #[.pointer (some ⟨pb, 0, none⟩)] w fun e w' => e = .panicked [{ v := wrongV 41 (tokPlace l 41 (l.length - k)), recovered := false }] ∧ w' = w := by
  obtain ⟨t, ht⟩ : ∃ t, l[k]? = some t := ⟨_, List.getElem?_eq_getElem hS.k⟩
  have p0 := hS.p.cell 0
  have t2 := hS.t.place k t ht
  have hpos : 0 < l.length - k := by have := hS.k; omega
  have hpl : tokPlace l 41 (l.length - k) = t.place := by
    unfold tokPlace
    rw [if_pos rfl, show l.length - (l.length - k) = k by have := hS.k; omega, ht]
    rfl
  rw [hpl]
  clear hpl hS ht
  go_enter Tryd.func50, Tryd.ntmps50
  go_wp2_with fail
  exact ⟨rfl, rfl, rfl⟩

set_option maxHeartbeats 1000000 in
theorem down_bad (d : Int) (w : World) (h : 200 < d) : Calls Tryd.prog 64 #[.int .i64 d] w fun e w' => e = .panicked [{ v := wrongV 2 0, recovered := false }] ∧ w' = w := by
  go_enter Tryd.func64, Tryd.ntmps64
  go_wp2_with fail
  exact ⟨rfl, rfl, rfl⟩
set_option maxHeartbeats 1000000 in
theorem down_ok (d : Int) (w : World) (h : ¬ 200 < d) : Calls Tryd.prog 64 #[.int .i64 d] w fun e w' => e = .returned (.tuple #[]) ∧ w' = w := by
  go_enter Tryd.func64, Tryd.ntmps64
  go_wp2_with fail
  first | go_end0 | refine bodyPost_ret (results_none rfl _ _ _) rfl ?_
  exact ⟨rfl, rfl⟩

/-- The tokens' slice, one further. -/
theorem PsSt.next (hS : PsSt w pb tb to c l k) (hk : k + 1 < l.length) : PsSt (w.setCell ⟨pb, 0, none⟩ (.slice (some ⟨tb, to + 3 * k + 3, none⟩) (l.length - k - 1) (c - k - 1))) pb tb to c l (k + 1) :=
  hS.step (grown_set (World.grownBy.refl w _) _ _) (by
    have h := hS.p.set_ 0 (.slice (some ⟨tb, to + 3 * k + 3, none⟩) (l.length - k - 1) (c - k - 1))
    rw [show to + 3 * (k + 1) = to + 3 * k + 3 by omega, show l.length - (k + 1) = l.length - k - 1 by omega, show c - (k + 1) = c - k - 1 by omega]
    exact h) hk

def TakeP (w : World) (pb tb to c : Nat) (l : List Tk) (k : Nat) (x : List UInt8) (e : Ending) (w' : World) : Prop :=
  (takes x (leftT l k) = false ∧ e = .returned (.bool false) ∧ w' = w) ∨ (takes x (leftT l k) = true ∧ e = .returned (.bool true) ∧ PsSt w' pb tb to c l (k + 1) ∧ w.grownBy w' (some pb))

set_option maxHeartbeats 2000000 in
theorem take_any (hT : ToksOk l) (hS : PsSt w pb tb to c l k) (x : List UInt8) (hx : x ≠ []) : Calls Tryd.prog 86 #[.pointer (some ⟨pb, 0, none⟩), .string ⟨x.toArray⟩] w (TakeP w pb tb to c l k x) := by
  obtain ⟨t, ht⟩ : ∃ t, l[k]? = some t := ⟨_, List.getElem?_eq_getElem hS.k⟩
  have p0 := hS.p.cell 0
  have pf := hS.p.frozen 0
  have t0 := hS.t.kind k t ht
  have t1 := hS.t.text k t ht
  have hpos : 0 < l.length - k := by have := hS.k; omega
  have hlk := hS.k
  have hc := hS.c
  have HTK : Hid (takes x (leftT l k) = (!decide (t.kind = 0) && decide (t.text = x))) := Lib.hid (by rw [leftT_at ht]; rfl)
  have HS := Lib.hid hS
  by_cases hk : t.kind = 0
  · have hk0 : (t.kind == 0) = true := by simp [hk]
    have HR : Hid (takes x (leftT l k) = false) := Lib.hid (by rw [HTK.out, hk]; rfl)
    clear hS ht hk
    go_enter Tryd.func86, Tryd.ntmps86
    go_wp2_with fail
    go_ret
    exact .inl ⟨HR.out, rfl, rfl⟩
  · have hk0 : (t.kind == 0) = false := by simp [hk]
    by_cases htx : t.text = x
    · have htt : (t.text == x) = true := by simp [htx]
      have HR : Hid (takes x (leftT l k) = true) := Lib.hid (by rw [HTK.out, decide_eq_false hk, decide_eq_true htx]; rfl)
      have hk1 : k + 1 < l.length := by
        rcases Nat.lt_or_ge (k + 1) l.length with h | h
        · exact h
        · have e : k = l.length - 1 := by omega
          have := hT.last t (by rw [← e]; exact ht)
          exact absurd this.1 hk
      have hsl := slice_tail tb (to + 3 * k) (l.length - k) (c - k) (by omega) (by omega)
      clear hS ht hk htx
      go_enter Tryd.func86, Tryd.ntmps86
      go_wp2_with fail
      go_ret
      exact .inr ⟨HR.out, rfl, HS.out.next hk1, grown_set (World.grownBy.refl w _) _ _⟩
    · have htt : (t.text == x) = false := by simp [htx]
      have HR : Hid (takes x (leftT l k) = false) := Lib.hid (by rw [HTK.out, decide_eq_false htx, Bool.and_false])
      clear hS ht hk htx
      go_enter Tryd.func86, Tryd.ntmps86
      go_wp2_with fail
      go_ret
      exact .inl ⟨HR.out, rfl, rfl⟩

def NeedP (w : World) (pb tb to c : Nat) (l : List Tk) (k : Nat) (x : List UInt8) (e : Ending) (w' : World) : Prop :=
  (takes x (leftT l k) = false ∧ e = .panicked [{ v := wrongV 41 (tokPlace l 41 (l.length - k)), recovered := false }] ∧ w' = w) ∨ (takes x (leftT l k) = true ∧ e = .returned (.tuple #[]) ∧ PsSt w' pb tb to c l (k + 1) ∧ w.grownBy w' (some pb))

set_option maxHeartbeats 2000000 in
theorem need_any (hT : ToksOk l) (hS : PsSt w pb tb to c l k) (x : List UInt8) (hx : x ≠ []) : Calls Tryd.prog 106 #[.pointer (some ⟨pb, 0, none⟩), .string ⟨x.toArray⟩] w (NeedP w pb tb to c l k x) := by
  have HC := Lib.hid (take_any hT hS x hx)
  have HF := Lib.hid (fail_any hS)
  clear hS hT
  go_enter Tryd.func106, Tryd.ntmps106
  go_wp2_with fail
  refine HC.out.mono ?_
  rintro e w1 (⟨h1, rfl, rfl⟩ | ⟨h1, rfl, h2, h3⟩)
  · have H1 := Lib.hid h1
    clear h1
    go_wp2_with fail
    refine HF.out.mono ?_
    rintro e w2 ⟨rfl, rfl⟩
    exact ⟨rfl, .inl ⟨H1.out, rfl, rfl⟩⟩
  · have H1 := Lib.hid h1
    have H2 := Lib.hid h2
    have H3 := Lib.hid h3
    clear h1 h2 h3
    go_wp2_with fail
    first | go_end0 | refine bodyPost_ret (results_none rfl _ _ _) rfl ?_
    exact .inr ⟨H1.out, rfl, H2.out, H3.out⟩
end
end Go.Proofs.YtijecfmblddanaaDoor

set_option linter.unusedVariables false
set_option linter.unusedSimpArgs false
namespace Go.Proofs.YtijecfmblddanaaDoor
open Go.RowKit Go.Maps

/-- Keys that are texts. -/
def ofStrs (f : List UInt8 → Option Value) : Lit → Option Value
  | .string s => f s
  | _ => none
def putS (f : List UInt8 → Option Value) (i : List UInt8) (v : Value) : List UInt8 → Option Value := fun j => if j = i then some v else f j
theorem putL_strs (f : List UInt8 → Option Value) (i : List UInt8) (v : Value) (l : Lit) : putL (ofStrs f) (.string i) v l = ofStrs (putS f i v) l := by
  unfold putL
  by_cases e : l = .string i
  · subst e
    rw [if_pos rfl]
    simp [ofStrs, putS]
  · rw [if_neg e]
    cases l with
    | string j =>
      have : j ≠ i := fun h => e (by rw [h])
      simp [ofStrs, putS, this]
    | _ => rfl
/-- Block b is a map whose keys are texts. -/
def SMap (P : Program) (k : TypeId) (w : World) (b n : Nat) (f : List UInt8 → Option Value) : Prop := GMap P k w b n (ofStrs f)
section
variable {P : Program} {k e t : TypeId} {w w' : World} {b n : Nat} {f : List UInt8 → Option Value}
theorem SMap.made (P : Program) (k : TypeId) (w : World) : SMap P k (w.alloc (.map #[] 0)) w.heap.size 0 (fun _ => none) :=
  (GMap.made P k w).congr fun l => by
    show none = ofStrs _ l
    unfold ofStrs
    split <;> rfl
theorem SMap.look_ok (h : SMap P k w b n f) (hk : P.underlying k = some .string) (ht : P.underlying t = some (.map k e)) {z : Value} (hz : (zeroValue e).run P w = .ok z w) {s : List UInt8} (h1 : s.length ≤ maxLen) :
    (Instr.lookup t (.map (some b)) (.string ⟨s.toArray⟩) true).run P w = .ok (.tuple #[(f s).getD z, .bool (f s).isSome]) w :=
  GMap.look_ok h (string_keyed hk) ht hz (kl := .string s) (by have := WideMaps.keyOf_string_mk (P := P) (k := k) hk (s := ⟨s.toArray⟩) (by show s.toArray.size ≤ _; rw [List.size_toArray]; exact h1); simpa using this)
theorem SMap.store (h : SMap P k w b n f) (hk : P.underlying k = some .string) (ht : P.underlying t = some (.map k e)) (hn : n < maxLen) {s : List UInt8} (h1 : s.length ≤ maxLen) (v : Value) :
    ∃ w', (Instr.mapUpdate t (.map (some b)) (.string ⟨s.toArray⟩) v).run P w = .ok () w' ∧ SMap P k w' b (n + 1) (putS f s v) ∧ w.grownBy w' (some b) := by
  obtain ⟨w', r, h3, h4⟩ := GMap.store h (string_keyed hk) ht hn (kl := .string s) (by have := WideMaps.keyOf_string_mk (P := P) (k := k) hk (s := ⟨s.toArray⟩) (by show s.toArray.size ≤ _; rw [List.size_toArray]; exact h1); simpa using this) trivial v
  exact ⟨w', r, h3.congr (putL_strs f s v), h4⟩
theorem SMap.congr {g : List UInt8 → Option Value} (h : SMap P k w b n f) (hg : ∀ i, f i = g i) : SMap P k w b n g := by
  have : f = g := funext hg
  rw [← this]
  exact h
end

/-- What lies under a word. -/
def unaryF (s : List UInt8) : Option Value := if unaryK s = 0 then none else some (.int .i64 (unaryK s))

set_option maxRecDepth 100000 in
set_option maxHeartbeats 2000000 in
theorem unary_any (w : World) : Calls Tryd.prog 105 #[] w fun e w' => e = .returned (.map (some w.heap.size)) ∧ SMap Tryd.prog 9 w' w.heap.size 7 unaryF ∧ Below w.heap.size w w' := by
  have hmm := @run_makeMap Tryd.prog
  have H0 := Lib.hid (SMap.made Tryd.prog 9 w)
  have HB0 := Lib.hid (stepA w (.map #[] 0))
  go_enter Tryd.func105, Tryd.ntmps105
  go_wp2_with fail
  obtain ⟨w1, hr, h1, hg⟩ := (H0.out).store Tryd.underlying9 Tryd.underlying126 (by unfold maxLen; omega) (s := [33]) (by decide) (.int .i64 4)
  have H1 := Lib.hid h1
  have HB1 := Lib.hid ((HB0.out).grown hg (HB0.out).size (fun k e => by cases e; exact Nat.le_refl _))
  clear h1 hg
  rw [hr]
  clear hr
  go_wp2_with fail
  obtain ⟨w2, hr, h1, hg⟩ := (H1.out).store Tryd.underlying9 Tryd.underlying126 (by unfold maxLen; omega) (s := [69, 88]) (by decide) (.int .i64 9)
  have H2 := Lib.hid h1
  have HB2 := Lib.hid ((HB1.out).grown hg (HB1.out).size (fun k e => by cases e; exact Nat.le_refl _))
  clear h1 hg
  rw [hr]
  clear hr
  go_wp2_with fail
  obtain ⟨w3, hr, h1, hg⟩ := (H2.out).store Tryd.underlying9 Tryd.underlying126 (by unfold maxLen; omega) (s := [65, 88]) (by decide) (.int .i64 10)
  have H3 := Lib.hid h1
  have HB3 := Lib.hid ((HB2.out).grown hg (HB2.out).size (fun k e => by cases e; exact Nat.le_refl _))
  clear h1 hg
  rw [hr]
  clear hr
  go_wp2_with fail
  obtain ⟨w4, hr, h1, hg⟩ := (H3.out).store Tryd.underlying9 Tryd.underlying126 (by unfold maxLen; omega) (s := [69, 70]) (by decide) (.int .i64 11)
  have H4 := Lib.hid h1
  have HB4 := Lib.hid ((HB3.out).grown hg (HB3.out).size (fun k e => by cases e; exact Nat.le_refl _))
  clear h1 hg
  rw [hr]
  clear hr
  go_wp2_with fail
  obtain ⟨w5, hr, h1, hg⟩ := (H4.out).store Tryd.underlying9 Tryd.underlying126 (by unfold maxLen; omega) (s := [65, 70]) (by decide) (.int .i64 12)
  have H5 := Lib.hid h1
  have HB5 := Lib.hid ((HB4.out).grown hg (HB4.out).size (fun k e => by cases e; exact Nat.le_refl _))
  clear h1 hg
  rw [hr]
  clear hr
  go_wp2_with fail
  obtain ⟨w6, hr, h1, hg⟩ := (H5.out).store Tryd.underlying9 Tryd.underlying126 (by unfold maxLen; omega) (s := [69, 71]) (by decide) (.int .i64 13)
  have H6 := Lib.hid h1
  have HB6 := Lib.hid ((HB5.out).grown hg (HB5.out).size (fun k e => by cases e; exact Nat.le_refl _))
  clear h1 hg
  rw [hr]
  clear hr
  go_wp2_with fail
  obtain ⟨w7, hr, h1, hg⟩ := (H6.out).store Tryd.underlying9 Tryd.underlying126 (by unfold maxLen; omega) (s := [65, 71]) (by decide) (.int .i64 14)
  have H7 := Lib.hid h1
  have HB7 := Lib.hid ((HB6.out).grown hg (HB6.out).size (fun k e => by cases e; exact Nat.le_refl _))
  clear h1 hg
  rw [hr]
  clear hr
  go_wp2_with fail
  go_ret
  refine ⟨rfl, (H7.out).congr fun s => ?_, HB7.out⟩
  unfold putS unaryF unaryK
  repeat' split
  all_goals first | rfl | simp_all

end Go.Proofs.YtijecfmblddanaaDoor

set_option linter.unusedVariables false
set_option linter.unusedSimpArgs false
namespace Go.Proofs.YtijecfmblddanaaDoor
open Go.RowKit Go.Maps

set_option maxHeartbeats 1000000 in
theorem of_any (k : Int) (A : Option Addr) (n c : Nat) (w : World) : Calls Tryd.prog 87 #[.int .i64 k, .slice A n c] w (Ret w (.agg #[.int .i64 k, .string ⟨#[]⟩, .int .i64 0, .slice A n c])) := by
  have hb := stepA w (.cells #[.int .i64 0, .string ⟨#[]⟩, .int .i64 0, .slice none 0 0] 37)
  go_enter Tryd.func87, Tryd.ntmps87
  go_wp2_with fail
  have hZ := Blk.new w 37 #[.int .i64 k, .string ⟨#[]⟩, .int .i64 0, .slice A n c]
  have z0 := hZ.cell 0
  have z1 := hZ.cell 1
  have z2 := hZ.cell 2
  have z3 := hZ.cell 3
  exact bodyPost_ret (v := .agg #[.int .i64 k, .string ⟨#[]⟩, .int .i64 0, .slice A n c]) (by simp [results, Tryd.results87, go_sem, z0, z1, z2, z3]) rfl (Ret.mk rfl (stepA w _))

section
variable {w : World} {pb tb to c k : Nat} {l : List Tk}
set_option maxRecDepth 100000 in
set_option maxHeartbeats 2000000 in
theorem psatom_any (hT : ToksOk l) (hS : PsSt w pb tb to c l k) : Calls Tryd.prog 108 #[.pointer (some ⟨pb, 0, none⟩)] w (PPost w pb tb to c l k (atomP (leftT l k))) := by
  obtain ⟨t, ht⟩ : ∃ t, l[k]? = some t := ⟨_, List.getElem?_eq_getElem hS.k⟩
  have htm : t ∈ l := List.mem_of_getElem? ht
  have p0 := hS.p.cell 0
  have t0 := hS.t.kind k t ht
  have t1 := hS.t.text k t ht
  have t2 := hS.t.place k t ht
  have hpos : 0 < l.length - k := by have := hS.k; omega
  have hlk := hS.k
  have hc := hS.c
  have hpl := hS.p.lt
  have htl := hS.t.lt
  have HS := Lib.hid hS
  have HA : Hid (atomP (leftT l k) = if t.kind = 1 ∧ keyB t.text = false then .ok (.mk 3 (unq t.text) 0 []) (leftT l (k + 1)) else .bad 41 (l.length - k)) := Lib.hid (by
    rw [leftT_at ht]
    unfold atomP
    show (if t.kind = 1 ∧ keyB t.text = false then PR.ok (.mk 3 (unq t.text) 0 []) (leftT l (k + 1)) else .bad 41 (leftT l (k + 1)).length.succ) = _
    rw [leftT_len, show (l.length - (k + 1)).succ = l.length - k by omega])
  have hbA := stepA w (.cells #[.int .i64 0, .string ⟨#[]⟩, .int .i64 0, .slice none 0 0] 37)
  have hbB := stepA (w.alloc (.cells #[.int .i64 0, .string ⟨#[]⟩, .int .i64 0, .slice none 0 0] 37)) (.cells #[.int .i64 t.kind, .string ⟨t.text.toArray⟩, .int .i64 (t.place : Int)] 32)
  have HB := Lib.hid (step2 hbA hbB)
  have HK := Lib.hid (fun W => key_any ⟨t.text.toArray⟩ W)
  rw [show (⟨t.text.toArray⟩ : ByteArray).data.toList = t.text from rfl] at HK
  clear hbA hbB
  by_cases hk : t.kind = 1
  · have hk0 : (t.kind == 1) = true := by simp [hk]
    have hkk : (t.kind != 1) = false := by simp [hk]
    have hk1 : k + 1 < l.length := by
      rcases Nat.lt_or_ge (k + 1) l.length with h | h
      · exact h
      · have e : k = l.length - 1 := by omega
        have := hT.last t (by rw [← e]; exact ht)
        omega
    obtain ⟨hn1, hn2⟩ := hT.name t htm hk
    have hlen := hT.len t htm
    have hsl := slice_tail tb (to + 3 * k) (l.length - k) (c - k) (by omega) (by omega)
    rw [hk] at HB HA t0
    have HFL := Lib.hid (fun W (h : Below w.heap.size w W) => fail_any (hS.after h))
    clear hS ht htm hT hk hk0 hkk
    go_enter Tryd.func108, Tryd.ntmps108
    go_wp2_with fail
    refine (HK.out _).mono ?_
    rintro e w3 ⟨rfl, hb3⟩
    cases hkb : keyB t.text with
    | true =>
      have HKB := Lib.hid hkb
      have HB3 := Lib.hid (step2 HB.out hb3)
      clear hkb hb3
      go_wp2_with fail
      refine (HFL.out _ HB3.out).mono ?_
      rintro e w4 ⟨rfl, rfl⟩
      refine ⟨rfl, ?_⟩
      rw [HA.out, if_neg (by rw [HKB.out]; decide)]
      exact ⟨rfl, grown_of HB3.out _⟩
    | false =>
      have HKB := Lib.hid hkb
      have HB3 := Lib.hid (step2 HB.out hb3)
      have hS3 := HS.out.after HB3.out
      have q0 := hS3.p.cell 0
      have qf := hS3.p.frozen 0
      have hR3 : Blk w3 w.heap.size 37 #[.int .i64 0, .string ⟨#[]⟩, .int .i64 0, .slice none 0 0] := ((Blk.new w _ _).alloc _).below hb3 (by simp; omega)
      have hT3 : Blk w3 (w.heap.size + 1) 32 #[.int .i64 1, .string ⟨t.text.toArray⟩, .int .i64 (t.place : Int)] := by
        have := Blk.new (w.alloc (.cells #[.int .i64 0, .string ⟨#[]⟩, .int .i64 0, .slice none 0 0] 37)) 32 #[.int .i64 1, .string ⟨t.text.toArray⟩, .int .i64 (t.place : Int)]
        rw [World.size_alloc] at this
        exact this.below hb3 (by simp)
      have x0 := hR3.frozen 0
      have x1 := hR3.frozen 1
      have x2 := hR3.frozen 2
      have x3 := hR3.frozen 3
      have r0 := hR3.cell 0
      have r1 := hR3.cell 1
      have r2 := hR3.cell 2
      have r3 := hR3.cell 3
      have y1 := hT3.cell 1
      have z1 := hT3.frozen 1
      have hn0 : pb ≠ w.heap.size := by omega
      have hn1' : pb ≠ w.heap.size + 1 := by omega
      have HS3 := Lib.hid hS3
      obtain ⟨S, hSS⟩ : ∃ S : ByteArray, S = ⟨t.text.toArray⟩ := ⟨_, rfl⟩
      have hz : S.size = t.text.length := by rw [hSS]; exact List.size_toArray
      rw [← hSS] at y1
      have hs0 : 0 < S.size := by omega
      have hs1 : S.size ≤ 20000 := by omega
      have HE : Hid (∀ a b : Nat, S.extract a b = ⟨((t.text.take b).drop a).toArray⟩) := Lib.hid fun a b => by
        have h := Lib.extract_data S a b
        cases hx : S.extract a b with
        | mk d =>
          rw [hx] at h
          have h' : d.toList = (t.text.take b).drop a := by
            rw [h, hSS, List.drop_take]
          congr 1
          rw [← h']
      have HRR := Lib.hid hR3
      have HTT := Lib.hid hT3
      have HRES : Hid (PsSt (w3.setCell ⟨pb, 0, none⟩ (.slice (some ⟨tb, to + 3 * k + 3, none⟩) (l.length - k - 1) (c - k - 1))) pb tb to c l (k + 1)) := Lib.hid (HS3.out.next hk1)
      have HGR : Hid (w.grownBy (w3.setCell ⟨pb, 0, none⟩ (.slice (some ⟨tb, to + 3 * k + 3, none⟩) (l.length - k - 1) (c - k - 1))) (some pb)) := Lib.hid (grown_set (grown_of HB3.out _) _ _)
      have HSH := Lib.hid (show S = ⟨t.text.toArray⟩ from hSS)
      have HN2 := Lib.hid hn2
      have HZ := Lib.hid hz
      have hSS' := hSS
      clear hkb hb3 hS3 hR3 hT3 hSS hn2
      by_cases hch : S[0].toNat = 34
      · have hcc : ((S[0].toNat : Int) == 34) = true := by simp; omega
        have HUN : Hid (unq t.text = (t.text.take (t.text.length - 1)).drop 1 ∧ 2 ≤ S.size) := Lib.hid (by
          have hh : t.text.head? = some 34 := by
            revert hch
            subst hSS'
            intro hch
            have hx : (⟨t.text.toArray⟩ : ByteArray)[0] = t.text[0] := rfl
            rw [hx] at hch
            rw [List.head?_eq_getElem?, List.getElem?_eq_getElem (by omega)]
            congr 1
            exact UInt8.toNat_inj.1 hch
          exact ⟨by unfold unq; rw [if_pos hh], by rw [HZ.out]; exact HN2.out hh⟩)
        have hs2 : 2 ≤ S.size := HUN.out.2
        clear hch hSS' hz
        go_wp2_with fail
        clear x0 x1 x2 x3 r0 r1 r2 r3 y1 z1 q0 qf
        have hZ := ((((HRR.out.far (p := ⟨pb, 0, none⟩) (by simp; omega) (.slice (some ⟨tb, to + 3 * k + 3, none⟩) (l.length - k - 1) (c - k - 1))).far (p := ⟨w.heap.size + 1, 1, none⟩) (by simp) (.string (S.extract 1 (S.size - 1)))).set_ 0 (.int .i64 3)).set_ 1 (.string (S.extract 1 (S.size - 1)))).set_ 2 (.int .i64 0) |>.set_ 3 (.slice none 0 0)
        have z0 := hZ.cell 0
        have z1 := hZ.cell 1
        have z2 := hZ.cell 2
        have z3 := hZ.cell 3
        refine bodyPost_ret (v := .agg #[.int .i64 3, .string (S.extract 1 (S.size - 1)), .int .i64 0, .slice none 0 0]) (by simp [results, Tryd.results108, go_sem, z0, z1, z2, z3]) rfl ?_
        rw [HA.out, if_pos (by simp [HKB.out])]
        refine ⟨none, 0, k + 1, ?_, Nat.le_succ _, ?_, ?_, ?_, rfl⟩
        · rw [HUN.out.1]
          rw [HE.out, HZ.out]
          rfl
        · exact grown_new (grown_new (grown_new (grown_new (grown_new HGR.out (by omega) _) (Nat.le_refl _) _) (Nat.le_refl _) _) (Nat.le_refl _) _) (Nat.le_refl _) _
        · exact (((((HRES.out.far (b := w.heap.size + 1) (by omega) (by omega) _).far (by omega) (by omega) _).far (by omega) (by omega) _).far (by omega) (by omega) _).far (by omega) (by omega) _)
        · exact ⟨by simp [Fm.kids], by simp [Fm.kids], by simp [Fm.kind], by simp only [Fm.name]; rw [HUN.out.1]; simp; have := HZ.out; omega, .nil _⟩
      · have hcc : ((S[0].toNat : Int) == 34) = false := by simp; omega
        have HUN : Hid (unq t.text = t.text) := Lib.hid (by
          unfold unq
          rw [if_neg]
          intro hh
          apply hch
          subst hSS'
          rw [List.head?_eq_getElem?, List.getElem?_eq_getElem (by omega)] at hh
          have hx : (⟨t.text.toArray⟩ : ByteArray)[0] = t.text[0] := rfl
          rw [hx, Option.some.inj hh]
          rfl)
        clear hch hSS' hz
        go_wp2_with fail
        clear x0 x1 x2 x3 r0 r1 r2 r3 y1 z1 q0 qf
        have hZ := (((HRR.out.far (p := ⟨pb, 0, none⟩) (by simp; omega) (.slice (some ⟨tb, to + 3 * k + 3, none⟩) (l.length - k - 1) (c - k - 1))).set_ 0 (.int .i64 3)).set_ 1 (.string S)).set_ 2 (.int .i64 0) |>.set_ 3 (.slice none 0 0)
        have z0 := hZ.cell 0
        have z1 := hZ.cell 1
        have z2 := hZ.cell 2
        have z3 := hZ.cell 3
        refine bodyPost_ret (v := .agg #[.int .i64 3, .string S, .int .i64 0, .slice none 0 0]) (by simp [results, Tryd.results108, go_sem, z0, z1, z2, z3]) rfl ?_
        rw [HA.out, if_pos (by simp [HKB.out])]
        refine ⟨none, 0, k + 1, ?_, Nat.le_succ _, ?_, ?_, ?_, rfl⟩
        · rw [HUN.out]
          rw [HSH.out]
          rfl
        · exact grown_new (grown_new (grown_new (grown_new (HGR.out) (Nat.le_refl _) _) (Nat.le_refl _) _) (Nat.le_refl _) _) (Nat.le_refl _) _
        · exact ((((HRES.out.far (by omega) (by omega) _).far (by omega) (by omega) _).far (by omega) (by omega) _).far (by omega) (by omega) _)
        · exact ⟨by simp [Fm.kids], by simp [Fm.kids], by simp [Fm.kind], by simp only [Fm.name]; rw [HUN.out]; have := HZ.out; omega, .nil _⟩
  · have hk0 : (t.kind == 1) = false := by simp [hk]
    have hkk : (t.kind != 1) = true := by simp [hk]
    have HFL := Lib.hid (fun W (h : Below w.heap.size w W) => fail_any (hS.after h))
    have HKN := Lib.hid hk
    clear hS ht htm hT hk
    go_enter Tryd.func108, Tryd.ntmps108
    go_wp2_with fail
    refine (HFL.out _ HB.out).mono ?_
    rintro e w4 ⟨rfl, rfl⟩
    refine ⟨rfl, ?_⟩
    rw [HA.out, if_neg (fun h => HKN.out h.1)]
    exact ⟨rfl, grown_of HB.out _⟩
end
end Go.Proofs.YtijecfmblddanaaDoor

set_option linter.unusedVariables false
set_option linter.unusedSimpArgs false
namespace Go.Proofs.YtijecfmblddanaaDoor
open Go.RowKit Go.Maps

section
variable {P : Program} {ops : Array Oper} {Q : Exit → Act → World → Prop} {S : World → Prop} {late mov : Nat → Bool}
theorem wpSeq_doneP {a : Act} {w : World} (h : Q .normal a w) : wpSeq P ops Q S mov late [] a w := h
end

/-- How many tokens the parser has left. -/
def leftN (w : World) (pb : Nat) : Nat := match w.cell? ⟨pb, 0, none⟩ with
  | some (.slice _ n _) => n
  | _ => 0
theorem PsSt.leftN {w : World} {pb tb to c k : Nat} {l : List Tk} (h : PsSt w pb tb to c l k) : leftN w pb = l.length - k := by
  unfold Proofs.YtijecfmblddanaaDoor.leftN
  rw [h.p.cell 0]
  rfl

/-- What a function that takes a part hands back, wherever it is called from here on. -/
def PartsBy (F : FuncId) (caps : Array Value) (w : World) (pb tb to c : Nat) (l : List Tk) (k : Nat) (g : List KT → PR) : Prop :=
  ∀ (W : World) (k' : Nat), w.grownBy W (some pb) → PsSt W pb tb to c l k' → k ≤ k' → Calls Tryd.prog F caps W (PPost W pb tb to c l k' (g (leftT l k')))

/-- What stands in the loop. -/
structure ChR (w : World) (pb tb to c : Nat) (l : List Tk) (k : Nat) (g : List KT → PR) (s : List UInt8) (kd : Int) (xf : Nat) (wr : World) (f : Fm) (A : Option Addr) (cf k' m : Nat) : Prop where
  b : Blk wr xf 37 #[.int .i64 f.kind, .string ⟨f.name.toArray⟩, .int .i64 f.lit, .slice A f.kids.length cf]
  r : Blk wr w.heap.size 37 #[.int .i64 0, .string ⟨#[]⟩, .int .i64 0, .slice none 0 0]
  v : FmVQ wr (fun b => w.heap.size ≤ b ∧ b < wr.heap.size ∧ b ≠ xf ∧ b ≠ w.heap.size) f A cf
  st : PsSt wr pb tb to c l k'
  gr : w.grownBy wr (some pb)
  km : k ≤ k'
  mm : l.length - k' ≤ m
  e : chainP g s kd (leftT l k) = chainL g s kd m f (leftT l k')

theorem chainL_go {g : List KT → PR} {s : List UInt8} {kd : Int} {m : Nat} {f : Fm} {t : List KT} (h : takes s t = true) (hm : 0 < m) : chainL g s kd m f t = (g t.tail).bind fun f2 t2 => chainL g s kd (m - 1) (.mk kd [] 0 [f, f2]) t2 := by
  obtain ⟨m, rfl⟩ : ∃ m', m = m' + 1 := ⟨m - 1, by omega⟩
  rw [chainL, if_pos h]
  rfl

section
variable {w : World} {pb tb to c k : Nat} {l : List Tk}
set_option maxRecDepth 100000 in
set_option maxHeartbeats 2000000 in
theorem chain_any (hT : ToksOk l) (hS : PsSt w pb tb to c l k) (s : List UInt8) (hs : s ≠ []) (kd : Int) (hkd : 1 ≤ kd ∧ kd ≤ 18) (F : FuncId) (caps : Array Value) (g : List KT → PR)
    (hF : ∀ args w, (callFunc F args).run Tryd.prog w = .ok (.enter F args) w) (hG : PartsBy F caps w pb tb to c l k g) :
    Calls Tryd.prog 65 #[.pointer (some ⟨pb, 0, none⟩), .string ⟨s.toArray⟩, .int .i64 kd, .func (.func F) #[] caps] w (PPost w pb tb to c l k (chainP g s kd (leftT l k))) := by
  have hb1 := stepA w (.cells #[.int .i64 0, .string ⟨#[]⟩, .int .i64 0, .slice none 0 0] 37)
  have HR1 := Lib.hid (Blk.new w 37 #[.int .i64 0, .string ⟨#[]⟩, .int .i64 0, .slice none 0 0])
  have HC1 := Lib.hid (hG _ k (grown_of hb1 _) (hS.after hb1) (Nat.le_refl _))
  have HB1 := Lib.hid (grown_of hb1 (some pb))
  have HG := Lib.hid hG
  have hpl := hS.p.lt
  have htl := hS.t.lt
  clear hb1 hG hS
  go_enter Tryd.func65, Tryd.ntmps65
  go_wp2_with fail
  refine HC1.out.mono ?_
  clear HC1
  intro e w2 hP
  cases hr : g (leftT l k) with
  | bad er m =>
    rw [hr] at hP
    obtain ⟨rfl, hg⟩ := hP
    refine ⟨rfl, ?_⟩
    unfold chainP
    rw [hr]
    exact ⟨rfl, grown_trans HB1.out hg⟩
  | ok f t =>
    rw [hr] at hP
    obtain ⟨A, cf, k1, rfl, hP⟩ := hP
    have hs2 := hP.g.size
    simp only [World.size_alloc] at hs2
    have hx : Hid (ChR w pb tb to c l k g s kd w2.heap.size (w2.alloc (.cells #[.int .i64 f.kind, .string ⟨f.name.toArray⟩, .int .i64 f.lit, .slice A f.kids.length cf] 37)) f A cf k1 (l.length - k1)) := Lib.hid (by
      have hb := stepA w2 (.cells #[.int .i64 f.kind, .string ⟨f.name.toArray⟩, .int .i64 f.lit, .slice A f.kids.length cf] 37)
      refine ⟨Blk.new _ _ _, (HR1.out.grown hP.g (by simp; omega)).alloc _, ?_, hP.s.after hb, grown_trans (grown_trans HB1.out hP.g) (grown_of hb _), hP.km, Nat.le_refl _, ?_⟩
      · refine hP.v.low (B := w2.heap.size) (fun b hb => ?_) hb
        simp only [World.size_alloc] at hb ⊢
        omega
      · unfold chainP
        rw [hr, PR.bind_ok, hP.t, leftT_len])
    obtain ⟨xf, hxf⟩ : ∃ xf, xf = w2.heap.size := ⟨_, rfl⟩
    have hxw : w.heap.size < xf := by omega
    rw [← hxf] at hx
    clear hP hs2 HR1 HB1 hr
    unfold fmA
    go_wp2_with fail
    rw [← hxf]
    generalize w2.alloc (.cells #[.int .i64 f.kind, .string ⟨f.name.toArray⟩, .int .i64 f.lit, .slice A f.kids.length cf] 37) = w3 at hx ⊢
    clear hxf
    go_loopw [] (fun wr => ∃ (f : Fm) (A : Option Addr) (cf k' m : Nat), ChR w pb tb to c l k g s kd xf wr f A cf k' m) (fun wr => leftN wr pb)
    case atStart => exact ⟨f, A, cf, k1, _, hx.out⟩
    case round =>
      clear hx
      obtain ⟨f, A, cf, k', m, hR⟩ := hrel
      have HR := Lib.hid hR
      have HTK := Lib.hid (take_any hT hR.st s hs)
      have HLN := Lib.hid hR.st.leftN
      have hlk := hR.st.k
      have hxr := hR.b.lt
      clear hR
      go_wp2_with fail
      refine HTK.out.mono ?_
      clear HTK
      rintro e w4 (⟨h1, rfl, rfl⟩ | ⟨h1, rfl, h2, h3⟩)
      · have H1 := Lib.hid h1
        have b0 := HR.out.b.cell 0
        have b1 := HR.out.b.cell 1
        have b2 := HR.out.b.cell 2
        have b3 := HR.out.b.cell 3
        have r0 := HR.out.r.cell 0
        have r1 := HR.out.r.cell 1
        have r2 := HR.out.r.cell 2
        have r3 := HR.out.r.cell 3
        have x0 := HR.out.r.frozen 0
        have x1 := HR.out.r.frozen 1
        have x2 := HR.out.r.frozen 2
        have x3 := HR.out.r.frozen 3
        clear h1
        go_wp2_with fail
        clear b0 b1 b2 b3 r0 r1 r2 r3 x0 x1 x2 x3
        have hZ := (((HR.out.r.set_ 0 (.int .i64 f.kind)).set_ 1 (.string ⟨f.name.toArray⟩)).set_ 2 (.int .i64 f.lit)).set_ 3 (.slice A f.kids.length cf)
        have z0 := hZ.cell 0
        have z1 := hZ.cell 1
        have z2 := hZ.cell 2
        have z3 := hZ.cell 3
        refine bodyPost_ret (v := .agg #[.int .i64 f.kind, .string ⟨f.name.toArray⟩, .int .i64 f.lit, .slice A f.kids.length cf]) (by simp [results, Tryd.results65, go_sem, z0, z1, z2, z3]) rfl ?_
        rw [HR.out.e, chainL_stop _ _ _ _ _ _ H1.out]
        have htp : tb < w.heap.size := htl
        refine ⟨A, cf, k', rfl, HR.out.km, ?_, ?_, ?_, rfl⟩
        · exact grown_new (grown_new (grown_new (grown_new HR.out.gr (Nat.le_refl _) _) (Nat.le_refl _) _) (Nat.le_refl _) _) (Nat.le_refl _) _
        · exact (((HR.out.st.far (by omega) (by omega) _).far (by omega) (by omega) _).far (by omega) (by omega) _).far (by omega) (by omega) _
        · have hq : ∀ b, (w.heap.size ≤ b ∧ b < w4.heap.size ∧ b ≠ xf ∧ b ≠ w.heap.size) → b ≠ w.heap.size := fun b h => h.2.2.2
          refine ((((HR.out.v.far hq _).far hq _).far hq _).far hq _).keep (fun b hb => ⟨hb.1, ?_⟩) fun b _ => rfl
          simp only [World.setCell, Array.size_modify]
          exact hb.2.1
      · have H1 := Lib.hid h1
        have H2 := Lib.hid (h2.after (stepD1 _))
        have H3 := Lib.hid (grown_trans HR.out.gr (grown_trans h3 (grown_of (stepD1 _) _)))
        have hB4 := HR.out.b.grown h3 (by simp; omega)
        have hV4 := HR.out.v.keep (w' := w4) (Q' := fun b => w.heap.size ≤ b ∧ b < wr.heap.size ∧ b ≠ xf ∧ b ≠ w.heap.size) (fun b hb => hb) (fun b hb => h3.block b hb.2.1 (by simp; omega))
        have hR4 := HR.out.r.grown h3 (by simp; omega)
        have HB4 := Lib.hid (hB4.drew)
        have HV4 := Lib.hid hV4
        have HR4 := Lib.hid hR4.drew
        have hs4 := h3.size
        have HKM := Lib.hid HR.out.km
        have HM := Lib.hid HR.out.mm
        have HE := Lib.hid HR.out.e
        have HC := Lib.hid (HG.out w4.drew (k' + 1) H3.out H2.out (by have := HR.out.km; omega))
        clear h1 h2 h3 hB4 hV4 hR4 HR
        go_wp2_with fail
        refine wp_region_seq (fun W => W.cell? ⟨xf, 0, none⟩ = some (.int .i64 f.kind) ∧ W.cell? ⟨xf, 1, none⟩ = some (.string ⟨f.name.toArray⟩) ∧ W.cell? ⟨xf, 2, none⟩ = some (.int .i64 f.lit) ∧ W.cell? ⟨xf, 3, none⟩ = some (.slice A f.kids.length cf)) [0, 1, 2, 3, 4, 5, 6] [0, 1, 2] [6] (by kernel_rfl) (by kernel_rfl) rfl (by kernel_rfl) (by kernel_rfl) (fun _ _ d _ _ h => by cases d <;> exact h) ?_ (fun hSS => ?_)
        · exact ⟨HB4.out.cell 0, HB4.out.cell 1, HB4.out.cell 2, HB4.out.cell 3⟩
        clear hSS
        (refine wpSeq_mov rfl rfl ?_; intro o ho; simp only [List.getElem?_toArray, List.getElem?_cons_zero, List.getElem?_cons_succ, Option.some.injEq] at ho; subst ho; refine ⟨?_, Or.inl ⟨by rfl, fun W hSW => ?_⟩, ?_⟩; rotate_left; (focus (go_simp; first | done | with_reducible rfl)); try simp only [Act.put, List.setIfInBounds_toArray, List.set_cons_zero, List.set_cons_succ])
        (refine wpSeq_mov rfl rfl ?_; intro o ho; simp only [List.getElem?_toArray, List.getElem?_cons_zero, List.getElem?_cons_succ, Option.some.injEq] at ho; subst ho; refine ⟨?_, Or.inl ⟨by rfl, fun W hSW => ?_⟩, ?_⟩; rotate_left; (focus (go_simp; first | done | with_reducible rfl)); try simp only [Act.put, List.setIfInBounds_toArray, List.set_cons_zero, List.set_cons_succ])
        (refine wpSeq_mov rfl rfl ?_; intro o ho; simp only [List.getElem?_toArray, List.getElem?_cons_zero, List.getElem?_cons_succ, Option.some.injEq] at ho; subst ho; refine ⟨?_, Or.inl ⟨by rfl, fun W hSW => ?_⟩, ?_⟩; rotate_left; (focus (go_simp; first | done | with_reducible rfl)); try simp only [Act.put, List.setIfInBounds_toArray, List.set_cons_zero, List.set_cons_succ])
        (refine wpSeq_fix rfl rfl ?_; intro o ho; simp only [List.getElem?_toArray, List.getElem?_cons_zero, List.getElem?_cons_succ, Option.some.injEq] at ho; subst ho; intro K hK)
        go_simp
        refine HC.out.mono ?_
        clear HC
        intro e w7 hP
        have hm0 : 0 < m := by have := HM.out; omega
        have HEE := Lib.hid (HE.out.trans (chainL_go (g := g) (kd := kd) (f := f) H1.out hm0))
        rw [leftT_tail] at HEE
        cases hr : g (leftT l (k' + 1)) with
        | bad er m =>
          rw [hr] at hP HEE
          obtain ⟨rfl, hg⟩ := hP
          refine ⟨rfl, ?_⟩
          rw [HEE.out]
          exact ⟨rfl, grown_trans H3.out hg⟩
        | ok f2 t2 =>
          rw [hr] at hP HEE
          obtain ⟨A2, c2, k2, rfl, hP⟩ := hP
          have hs7 := hP.g.size
          have hB7 := HB4.out.grown hP.g (by simp; omega)
          have HB7 := Lib.hid hB7
          have HR7 := Lib.hid (HR4.out.grown hP.g (by simp; omega))
          have HV7 : Hid (FmVQ w7 (fun b => w.heap.size ≤ b ∧ b < w7.heap.size ∧ b ≠ xf ∧ b ≠ w.heap.size) f A cf) := Lib.hid (HV4.out.keep (fun b hb => ⟨hb.1, by have := hb.2.1; have : w4.drew.heap.size = w4.heap.size := rfl; omega, hb.2.2⟩) (fun b hb => hP.g.block b (by have := hb.2.1; show b < w4.heap.size; omega) (by simp; omega)))
          have HW7 : Hid (FmVQ w7 (fun b => w.heap.size ≤ b ∧ b < w7.heap.size ∧ b ≠ xf ∧ b ≠ w.heap.size) f2 A2 c2) := Lib.hid (hP.v.keep (fun b hb => by have h1 := hb.1; have h2 := hb.2; have : w4.drew.heap.size = w4.heap.size := rfl; exact ⟨by omega, h2, by omega, by omega⟩) fun b _ => rfl)
          have HS7 := Lib.hid hP.s
          have HG7 := Lib.hid (grown_trans H3.out hP.g)
          have hk2 : k' + 1 ≤ k2 := hP.km
          have HT7 := Lib.hid hP.t
          have hpk := hP.s.k
          clear hP hB7 hr HE
          unfold fmA
          (refine hK.out _ _ (fun _ => ⟨HB7.out.cell 0, HB7.out.cell 1, HB7.out.cell 2, HB7.out.cell 3⟩) ?_; clear hK K; try simp only [Act.put, List.setIfInBounds_toArray, List.set_cons_zero, List.set_cons_succ])
          have hbA := stepA w7 (.cells #[.int .i64 f.kind, .string ⟨f.name.toArray⟩, .int .i64 f.lit, .slice A f.kids.length cf, .int .i64 f2.kind, .string ⟨f2.name.toArray⟩, .int .i64 f2.lit, .slice A2 f2.kids.length c2] 37)
          have HBA := Lib.hid hbA
          have HRW := Lib.hid (Blk.new w7 37 #[.int .i64 f.kind, .string ⟨f.name.toArray⟩, .int .i64 f.lit, .slice A f.kids.length cf, .int .i64 f2.kind, .string ⟨f2.name.toArray⟩, .int .i64 f2.lit, .slice A2 f2.kids.length c2])
          have hxw7 : xf < w7.heap.size := HB7.out.lt
          clear hbA
          (refine wpSeq_fix rfl rfl ?_; intro o ho; simp only [List.getElem?_toArray, List.getElem?_cons_zero, List.getElem?_cons_succ, Option.some.injEq] at ho; subst ho; intro K hK)
          go_simp
          (refine hK.out _ _ (fun _ => ⟨(HB7.out.alloc _).cell 0, (HB7.out.alloc _).cell 1, (HB7.out.alloc _).cell 2, (HB7.out.alloc _).cell 3⟩) ?_; clear hK K; try simp only [Act.put, List.setIfInBounds_toArray, List.set_cons_zero, List.set_cons_succ])
          (refine wpSeq_fix rfl rfl ?_; intro o ho; simp only [List.getElem?_toArray, List.getElem?_cons_zero, List.getElem?_cons_succ, Option.some.injEq] at ho; subst ho; intro K hK)
          go_simp
          refine (of_any _ _ _ _ _).mono ?_
          rintro e w9 ⟨rfl, hb9⟩
          have hB9 := (HB7.out.alloc (.cells #[.int .i64 f.kind, .string ⟨f.name.toArray⟩, .int .i64 f.lit, .slice A f.kids.length cf, .int .i64 f2.kind, .string ⟨f2.name.toArray⟩, .int .i64 f2.lit, .slice A2 f2.kids.length c2] 37)).below hb9 (by simp; omega)
          have HB9 := Lib.hid hB9
          have HW9 := Lib.hid (step2 HBA.out hb9)
          have HRW9 := Lib.hid (HRW.out.below hb9 (by simp))
          clear hb9 hB9
          (refine hK.out _ _ (fun _ => ⟨HB9.out.cell 0, HB9.out.cell 1, HB9.out.cell 2, HB9.out.cell 3⟩) ?_; clear hK K; try simp only [Act.put, List.setIfInBounds_toArray, List.set_cons_zero, List.set_cons_succ])
          have x0 := HB9.out.frozen 0
          have x1 := HB9.out.frozen 1
          have x2 := HB9.out.frozen 2
          have x3 := HB9.out.frozen 3
          have c0 := HB9.out.cell 0
          have c1 := HB9.out.cell 1
          have c2' := HB9.out.cell 2
          have c3 := HB9.out.cell 3
          have hs9 := HW9.out.size
          (refine wpSeq_fix rfl rfl ?_; intro o ho; simp only [List.getElem?_toArray, List.getElem?_cons_zero, List.getElem?_cons_succ, Option.some.injEq] at ho; subst ho; intro K hK)
          go_simp
          (refine hK.out _ _ (fun h => by simp at h) ?_; clear hK K; try simp only [Act.put, List.setIfInBounds_toArray, List.set_cons_zero, List.set_cons_succ])
          refine wpSeq_doneP ?_
          clear x0 x1 x2 x3 c0 c1 c2' c3
          have htx : tb ≠ xf := by omega
          have hpx : pb ≠ xf := by omega
          have HNEW : Hid (ChR w pb tb to c l k g s kd xf ((((w9.setCell ⟨xf, 0, none⟩ (.int .i64 kd)).setCell ⟨xf, 1, none⟩ (.string ⟨#[]⟩)).setCell ⟨xf, 2, none⟩ (.int .i64 0)).setCell ⟨xf, 3, none⟩ (.slice (some ⟨w7.heap.size, 0, none⟩) 2 2)) (.mk kd [] 0 [f, f2]) (some ⟨w7.heap.size, 0, none⟩) 2 k2 (m - 1)) := Lib.hid (by
            have hq : ∀ b, (w.heap.size ≤ b ∧ b < w7.heap.size ∧ b ≠ xf ∧ b ≠ w.heap.size) → b ≠ xf := fun b h => h.2.2.1
            have hv := ((((HV7.out.low (B := w7.heap.size) (fun b hb => ⟨hb.2.1, hb⟩) HW9.out).far (i := 0) hq (.int .i64 kd)).far (i := 1) hq (.string ⟨#[]⟩)).far (i := 2) hq (.int .i64 0)).far (i := 3) hq (.slice (some ⟨w7.heap.size, 0, none⟩) 2 2)
            have hv2 := ((((HW7.out.low (B := w7.heap.size) (fun b hb => ⟨hb.2.1, hb⟩) HW9.out).far (i := 0) hq (.int .i64 kd)).far (i := 1) hq (.string ⟨#[]⟩)).far (i := 2) hq (.int .i64 0)).far (i := 3) hq (.slice (some ⟨w7.heap.size, 0, none⟩) 2 2)
            have hrow := (((HRW9.out.far (p := ⟨xf, 0, none⟩) (by simp; omega) (.int .i64 kd)).far (p := ⟨xf, 1, none⟩) (by simp; omega) (.string ⟨#[]⟩)).far (p := ⟨xf, 2, none⟩) (by simp; omega) (.int .i64 0)).far (p := ⟨xf, 3, none⟩) (by simp; omega) (.slice (some ⟨w7.heap.size, 0, none⟩) 2 2)
            have hsz : ((((w9.setCell ⟨xf, 0, none⟩ (.int .i64 kd)).setCell ⟨xf, 1, none⟩ (.string ⟨#[]⟩)).setCell ⟨xf, 2, none⟩ (.int .i64 0)).setCell ⟨xf, 3, none⟩ (.slice (some ⟨w7.heap.size, 0, none⟩) 2 2)).heap.size = w9.heap.size := by simp [World.setCell]
            have hrs := HRW9.out.lt
            refine ⟨(((HB9.out.set_ 0 (.int .i64 kd)).set_ 1 (.string ⟨#[]⟩)).set_ 2 (.int .i64 0)).set_ 3 (.slice (some ⟨w7.heap.size, 0, none⟩) 2 2), ?_, ?_, ?_, ?_, ?_, ?_, ?_⟩
            · exact ((((HR7.out.below HW9.out HR7.out.lt).far (p := ⟨xf, 0, none⟩) (by simp; omega) _).far (p := ⟨xf, 1, none⟩) (by simp; omega) _).far (p := ⟨xf, 2, none⟩) (by simp; omega) _).far (p := ⟨xf, 3, none⟩) (by simp; omega) _
            · refine ⟨by simp [Fm.kids], by simp [Fm.kids], by simp [Fm.kind]; omega, by simp [Fm.name], FmQ.two ⟨by omega, by rw [hsz]; exact hrs, by omega, by omega⟩ hrow ?_ ?_⟩
              · exact hv.keep (fun b hb => ⟨hb.1, by rw [hsz]; have := hb.2.1; omega, hb.2.2⟩) fun b _ => rfl
              · exact hv2.keep (fun b hb => ⟨hb.1, by rw [hsz]; have := hb.2.1; omega, hb.2.2⟩) fun b _ => rfl
            · exact ((((HS7.out.after HW9.out).far (by omega) (by omega) _).far (by omega) (by omega) _).far (by omega) (by omega) _).far (by omega) (by omega) _
            · exact grown_new (grown_new (grown_new (grown_new (grown_trans HG7.out (grown_of HW9.out _)) (by omega) _) (by omega) _) (by omega) _) (by omega) _
            · have := HKM.out; omega
            · have := HM.out; omega
            · rw [HEE.out, PR.bind_ok, HT7.out])
          go_roundw
          case rel => exact ⟨_, _, _, _, _, _, _, _, _, ⟨_, _, _, _, _, HNEW.out⟩, rfl⟩
          case measure =>
            rw [HNEW.out.st.leftN, HLN.out]
            omega
end
end Go.Proofs.YtijecfmblddanaaDoor

set_option linter.unusedVariables false
set_option linter.unusedSimpArgs false
namespace Go.Proofs.YtijecfmblddanaaDoor
open Go.RowKit Go.Maps

section
variable {w : World} {pb tb to c k : Nat} {l : List Tk}
set_option maxRecDepth 100000 in
set_option maxHeartbeats 4000000 in
theorem until_any (hT : ToksOk l) (hS : PsSt w pb tb to c l k) (u r d : Int) (hu : 1 ≤ u ∧ u ≤ 18) (hr : 1 ≤ r ∧ r ≤ 18) (hd : 0 ≤ d ∧ d ≤ 100000) (g : List KT → PR)
    (hG : PartsBy 49 #[.pointer (some ⟨pb, 0, none⟩), .int .i64 (d + 1)] w pb tb to c l (k + 1) g) :
    Calls Tryd.prog 107 #[.pointer (some ⟨pb, 0, none⟩), .int .i64 u, .int .i64 r, .int .i64 d] w (PPost w pb tb to c l k (untilP g u r (leftT l k))) := by
  have hb0 := stepA w (.cells #[.int .i64 0, .string ⟨#[]⟩, .int .i64 0, .slice none 0 0] 37)
  have HR0 := Lib.hid (Blk.new w 37 #[.int .i64 0, .string ⟨#[]⟩, .int .i64 0, .slice none 0 0])
  have HG0 := Lib.hid (grown_of hb0 (some pb))
  have HS0 := Lib.hid (hS.after hb0)
  have HN := Lib.hid (need_any hT HS0.out [91] (by decide))
  have HG := Lib.hid hG
  have hpl := hS.p.lt
  have htl := hS.t.lt
  obtain ⟨hd0, hd1⟩ := hd
  clear hb0 hG hS
  go_enter Tryd.func107, Tryd.ntmps107
  go_wp2_with fail
  refine HN.out.mono ?_
  clear HN
  rintro e w1 (⟨h1, rfl, rfl⟩ | ⟨h1, rfl, h2, h3⟩)
  · refine ⟨rfl, ?_⟩
    unfold untilP needP
    rw [h1, if_neg (by decide), leftT_len]
    exact ⟨rfl, HG0.out⟩
  have HE : Hid (untilP g u r (leftT l k) = (g (leftT l (k + 1))).bind fun a t2 => if takes [82] t2 then (g t2.tail).bind fun b t4 => needP [93] t4 fun t5 => .ok (.mk r [] 0 [a, b]) t5 else needP [85] t2 fun t3 => (g t3).bind fun b t4 => needP [93] t4 fun t5 => .ok (.mk u [] 0 [a, b]) t5) := Lib.hid (by
    unfold untilP needP
    rw [h1, if_pos rfl, leftT_tail])
  have HR1 := Lib.hid (HR0.out.grown h3 (by simp; omega))
  have HG1 := Lib.hid (grown_trans HG0.out h3)
  have hs1 := h3.size
  simp only [World.size_alloc] at hs1
  have HC := Lib.hid (HG.out w1 (k + 1) HG1.out h2 (Nat.le_refl _))
  clear h1 h2 h3 HS0 HR0 HG0
  go_wp2_with fail
  refine HC.out.mono ?_
  clear HC
  intro e w2 hP
  cases hr1 : g (leftT l (k + 1)) with
  | bad er m =>
    rw [hr1] at hP
    obtain ⟨rfl, hg⟩ := hP
    refine ⟨rfl, ?_⟩
    rw [HE.out, hr1]
    exact ⟨rfl, grown_trans HG1.out hg⟩
  | ok a ta =>
    rw [hr1] at hP
    obtain ⟨A1, c1, k2, rfl, hP⟩ := hP
    have hs2 := hP.g.size
    have hk2 : k + 1 ≤ k2 := hP.km
    have hkl := hP.s.k
    replace HE := Lib.hid (HE.out.trans (by rw [hr1, PR.bind_ok, hP.t]))
    have hbA := stepA w2 (.cells #[.int .i64 a.kind, .string ⟨a.name.toArray⟩, .int .i64 a.lit, .slice A1 a.kids.length c1] 37)
    have HXA := Lib.hid (Blk.new w2 37 #[.int .i64 a.kind, .string ⟨a.name.toArray⟩, .int .i64 a.lit, .slice A1 a.kids.length c1])
    have HVA : Hid (FmVQ (w2.alloc (.cells #[.int .i64 a.kind, .string ⟨a.name.toArray⟩, .int .i64 a.lit, .slice A1 a.kids.length c1] 37)) (fun b => w.heap.size < b ∧ b < (w2.alloc (.cells #[.int .i64 a.kind, .string ⟨a.name.toArray⟩, .int .i64 a.lit, .slice A1 a.kids.length c1] 37)).heap.size) a A1 c1) := Lib.hid (hP.v.low (B := w2.heap.size) (fun b hb => ⟨hb.2, by simp only [World.size_alloc]; omega⟩) hbA)
    have HR2 := Lib.hid ((HR1.out.grown hP.g (by simp; omega)).alloc (.cells #[.int .i64 a.kind, .string ⟨a.name.toArray⟩, .int .i64 a.lit, .slice A1 a.kids.length c1] 37))
    have HG2 := Lib.hid (grown_trans (grown_trans HG1.out hP.g) (grown_of hbA _))
    have HS2 := Lib.hid (hP.s.after hbA)
    obtain ⟨xa, hxa⟩ : ∃ xa, xa = w2.heap.size := ⟨_, rfl⟩
    have hxw : w.heap.size < xa := by omega
    rw [← hxa] at HXA
    clear hP hbA hr1 HG1 HR1
    unfold fmA
    go_wp2_with fail
    rw [← hxa]
    have hs3 : xa < (w2.alloc (.cells #[.int .i64 a.kind, .string ⟨a.name.toArray⟩, .int .i64 a.lit, .slice A1 a.kids.length c1] 37)).heap.size := by rw [hxa]; simp
    generalize w2.alloc (.cells #[.int .i64 a.kind, .string ⟨a.name.toArray⟩, .int .i64 a.lit, .slice A1 a.kids.length c1] 37) = w3 at HXA HVA HR2 HG2 HS2 hs3 ⊢
    clear hxa hs2 hs1
    refine (take_any hT HS2.out [82] (by decide)).mono ?_
    rintro e w4 (⟨h1, rfl, rfl⟩ | ⟨h1, rfl, h2, h3⟩)
    · replace HE := Lib.hid (HE.out.trans (show _ = needP [85] (leftT l k2) (fun t3 => (g t3).bind fun b t4 => needP [93] t4 fun t5 => .ok (.mk u [] 0 [a, b]) t5) by rw [h1, if_neg (by decide)]))
      clear h1
      go_wp2_with fail
      refine (need_any hT HS2.out [85] (by decide)).mono ?_
      rintro e w5 (⟨h1, rfl, rfl⟩ | ⟨h1, rfl, h2, h3⟩)
      · refine ⟨rfl, ?_⟩
        rw [HE.out]
        unfold needP
        rw [h1, if_neg (by decide), leftT_len]
        exact ⟨rfl, HG2.out⟩
      replace HE := Lib.hid (HE.out.trans (show _ = (g (leftT l (k2 + 1))).bind (fun b t4 => needP [93] t4 fun t5 => .ok (.mk u [] 0 [a, b]) t5) by unfold needP; rw [h1, if_pos rfl, leftT_tail]))
      have hs5 := h3.size
      have HXA5 := Lib.hid (HXA.out.grown h3 (by simp; omega))
      have HVA5 : Hid (FmVQ w5 (fun b => w.heap.size < b ∧ b < w5.heap.size) a A1 c1) := Lib.hid (HVA.out.keep (fun b hb => ⟨hb.1, by omega⟩) (fun b hb => h3.block b hb.2 (by have := hb.1; simp; omega)))
      have HR5 := Lib.hid (HR2.out.grown h3 (by simp; omega))
      have HG5 := Lib.hid (grown_trans HG2.out h3)
      have HS5 := Lib.hid h2
      obtain ⟨k3, hk3⟩ : ∃ k3, k3 = k2 + 1 := ⟨_, rfl⟩
      rw [← hk3] at HE HS5
      have hk3' : k + 2 ≤ k3 := by omega
      clear h1 h2 h3 HS2 HG2 HR2 HXA HVA hk3
      have HC := Lib.hid (HG.out w5 k3 HG5.out HS5.out (by omega))
      go_wp2_with fail
      refine HC.out.mono ?_
      clear HC
      intro e w6 hP
      have hk3l := HS5.out.k
      cases hr2 : g (leftT l k3) with
      | bad er m =>
        rw [hr2] at hP
        obtain ⟨rfl, hg⟩ := hP
        refine ⟨rfl, ?_⟩
        rw [HE.out, hr2]
        exact ⟨rfl, grown_trans HG5.out hg⟩
      | ok b tb2 =>
        rw [hr2] at hP
        obtain ⟨A2, c2, k4, rfl, hP⟩ := hP
        have hs6 := hP.g.size
        have hk4 : k3 ≤ k4 := hP.km
        replace HE := Lib.hid (HE.out.trans (by rw [hr2, PR.bind_ok, hP.t]))
        have hbB := stepA w6 (.cells #[.int .i64 b.kind, .string ⟨b.name.toArray⟩, .int .i64 b.lit, .slice A2 b.kids.length c2] 37)
        have HXB := Lib.hid (Blk.new w6 37 #[.int .i64 b.kind, .string ⟨b.name.toArray⟩, .int .i64 b.lit, .slice A2 b.kids.length c2])
        have hxr5 := HXA5.out.lt
        have HXA6 := Lib.hid ((HXA5.out.grown hP.g (by simp; omega)).alloc (.cells #[.int .i64 b.kind, .string ⟨b.name.toArray⟩, .int .i64 b.lit, .slice A2 b.kids.length c2] 37))
        have HVA6 : Hid (FmVQ (w6.alloc (.cells #[.int .i64 b.kind, .string ⟨b.name.toArray⟩, .int .i64 b.lit, .slice A2 b.kids.length c2] 37)) (fun q => w.heap.size < q ∧ q < (w6.alloc (.cells #[.int .i64 b.kind, .string ⟨b.name.toArray⟩, .int .i64 b.lit, .slice A2 b.kids.length c2] 37)).heap.size) a A1 c1) := Lib.hid ((HVA5.out.keep (w' := w6) (Q' := fun b => w.heap.size < b ∧ b < w6.heap.size) (fun b hb => ⟨hb.1, by omega⟩) (fun b hb => hP.g.block b hb.2 (by have := hb.1; simp; omega))).low (B := w6.heap.size) (fun b hb => ⟨hb.2, by simp only [World.size_alloc]; omega⟩) hbB)
        have HVB6 : Hid (FmVQ (w6.alloc (.cells #[.int .i64 b.kind, .string ⟨b.name.toArray⟩, .int .i64 b.lit, .slice A2 b.kids.length c2] 37)) (fun q => w.heap.size < q ∧ q < (w6.alloc (.cells #[.int .i64 b.kind, .string ⟨b.name.toArray⟩, .int .i64 b.lit, .slice A2 b.kids.length c2] 37)).heap.size) b A2 c2) := Lib.hid (hP.v.low (B := w6.heap.size) (fun b hb => ⟨hb.2, by simp only [World.size_alloc]; omega⟩) hbB)
        have HR6 := Lib.hid ((HR5.out.grown hP.g (by simp; omega)).alloc (.cells #[.int .i64 b.kind, .string ⟨b.name.toArray⟩, .int .i64 b.lit, .slice A2 b.kids.length c2] 37))
        have HG6 := Lib.hid (grown_trans (grown_trans HG5.out hP.g) (grown_of hbB _))
        have HS6 := Lib.hid (hP.s.after hbB)
        obtain ⟨xb, hxb⟩ : ∃ xb, xb = w6.heap.size := ⟨_, rfl⟩
        have hxbw : xa < xb := by omega
        rw [← hxb] at HXB
        clear hP hbB hr2 HG5 HR5 HXA5 HVA5 HS5
        unfold fmA
        go_wp2_with fail
        rw [← hxb]
        generalize w6.alloc (.cells #[.int .i64 b.kind, .string ⟨b.name.toArray⟩, .int .i64 b.lit, .slice A2 b.kids.length c2] 37) = w7 at HXA6 HXB HVA6 HVB6 HR6 HG6 HS6 ⊢
        clear hxb hs6
        refine (need_any hT HS6.out [93] (by decide)).mono ?_
        rintro e w8 (⟨h1, rfl, rfl⟩ | ⟨h1, rfl, h2, h3⟩)
        · refine ⟨rfl, ?_⟩
          rw [HE.out]
          unfold needP
          rw [h1, if_neg (by decide), leftT_len]
          exact ⟨rfl, HG6.out⟩
        replace HE := Lib.hid (HE.out.trans (show _ = PR.ok (.mk u [] 0 [a, b]) (leftT l (k4 + 1)) by unfold needP; rw [h1, if_pos rfl, leftT_tail]))
        have hs8 := h3.size
        have hxr7 := HXB.out.lt
        have hA8 := HXA6.out.grown h3 (by simp; omega)
        have hB8 := HXB.out.grown h3 (by simp; omega)
        have hR8 := HR6.out.grown h3 (by simp; omega)
        have HVA8 : Hid (FmVQ w8 (fun b => w.heap.size < b ∧ b < w8.heap.size) a A1 c1) := Lib.hid (HVA6.out.keep (fun b hb => ⟨hb.1, by omega⟩) (fun b hb => h3.block b hb.2 (by have := hb.1; simp; omega)))
        have HVB8 : Hid (FmVQ w8 (fun b => w.heap.size < b ∧ b < w8.heap.size) b A2 c2) := Lib.hid (HVB6.out.keep (fun b hb => ⟨hb.1, by omega⟩) (fun b hb => h3.block b hb.2 (by have := hb.1; simp; omega)))
        have HG8 := Lib.hid (grown_trans HG6.out h3)
        have HS8 := Lib.hid h2
        have a0 := hA8.cell 0
        have a1 := hA8.cell 1
        have a2 := hA8.cell 2
        have a3 := hA8.cell 3
        have b0 := hB8.cell 0
        have b1 := hB8.cell 1
        have b2 := hB8.cell 2
        have b3 := hB8.cell 3
        have HR8 := Lib.hid hR8
        have hr8 := hR8.lt
        clear h1 h2 h3 hA8 hB8 hR8 HR6 HG6 HS6 HXA6 HXB HVA6 HVB6
        go_wp2_with fail
        have hbC := stepA w8 (.cells #[.int .i64 a.kind, .string ⟨a.name.toArray⟩, .int .i64 a.lit, .slice A1 a.kids.length c1, .int .i64 b.kind, .string ⟨b.name.toArray⟩, .int .i64 b.lit, .slice A2 b.kids.length c2] 37)
        have HRW := Lib.hid (Blk.new w8 37 #[.int .i64 a.kind, .string ⟨a.name.toArray⟩, .int .i64 a.lit, .slice A1 a.kids.length c1, .int .i64 b.kind, .string ⟨b.name.toArray⟩, .int .i64 b.lit, .slice A2 b.kids.length c2])
        refine (of_any _ _ _ _ _).mono ?_
        rintro e w9 ⟨rfl, hb9⟩
        have HB9 := Lib.hid (step2 hbC hb9)
        have hR9 := HR8.out.below HB9.out hr8
        have x0 := hR9.frozen 0
        have x1 := hR9.frozen 1
        have x2 := hR9.frozen 2
        have x3 := hR9.frozen 3
        have y0 := hR9.cell 0
        have y1 := hR9.cell 1
        have y2 := hR9.cell 2
        have y3 := hR9.cell 3
        have HR9 := Lib.hid hR9
        have HRW9 := Lib.hid (HRW.out.below hb9 (by simp))
        have hs9 := HB9.out.size
        clear hbC hb9 hR9 HRW a0 a1 a2 a3 b0 b1 b2 b3
        go_wp2_with fail
        clear x0 x1 x2 x3 y0 y1 y2 y3
        have hZ := (((HR9.out.set_ 0 (.int .i64 u)).set_ 1 (.string ⟨#[]⟩)).set_ 2 (.int .i64 0)).set_ 3 (.slice (some ⟨w8.heap.size, 0, none⟩) 2 2)
        have z0 := hZ.cell 0
        have z1 := hZ.cell 1
        have z2 := hZ.cell 2
        have z3 := hZ.cell 3
        refine bodyPost_ret (v := .agg #[.int .i64 u, .string ⟨#[]⟩, .int .i64 0, .slice (some ⟨w8.heap.size, 0, none⟩) 2 2]) (by simp [results, Tryd.results107, go_sem, z0, z1, z2, z3]) rfl ?_
        rw [HE.out]
        have hq : ∀ b, (w.heap.size < b ∧ b < w8.heap.size) → b ≠ w.heap.size := fun b h => by omega
        have hsz : ((((w9.setCell ⟨w.heap.size, 0, none⟩ (.int .i64 u)).setCell ⟨w.heap.size, 1, none⟩ (.string ⟨#[]⟩)).setCell ⟨w.heap.size, 2, none⟩ (.int .i64 0)).setCell ⟨w.heap.size, 3, none⟩ (.slice (some ⟨w8.heap.size, 0, none⟩) 2 2)).heap.size = w9.heap.size := by simp [World.setCell]
        have hrs := HRW9.out.lt
        refine ⟨some ⟨w8.heap.size, 0, none⟩, 2, k4 + 1, rfl, by omega, ?_, ?_, ?_, rfl⟩
        · exact grown_new (grown_new (grown_new (grown_new (grown_trans HG8.out (grown_of HB9.out _)) (Nat.le_refl _) _) (Nat.le_refl _) _) (Nat.le_refl _) _) (Nat.le_refl _) _
        · exact ((((HS8.out.after HB9.out).far (by omega) (by omega) _).far (by omega) (by omega) _).far (by omega) (by omega) _).far (by omega) (by omega) _
        · have hrow := (((HRW9.out.far (p := ⟨w.heap.size, 0, none⟩) (by simp; omega) (.int .i64 u)).far (p := ⟨w.heap.size, 1, none⟩) (by simp; omega) (.string ⟨#[]⟩)).far (p := ⟨w.heap.size, 2, none⟩) (by simp; omega) (.int .i64 0)).far (p := ⟨w.heap.size, 3, none⟩) (by simp; omega) (.slice (some ⟨w8.heap.size, 0, none⟩) 2 2)
          have hva := ((((HVA8.out.low (B := w8.heap.size) (fun b hb => ⟨hb.2, hb⟩) HB9.out).far (i := 0) hq (.int .i64 u)).far (i := 1) hq (.string ⟨#[]⟩)).far (i := 2) hq (.int .i64 0)).far (i := 3) hq (.slice (some ⟨w8.heap.size, 0, none⟩) 2 2)
          have hvb := ((((HVB8.out.low (B := w8.heap.size) (fun b hb => ⟨hb.2, hb⟩) HB9.out).far (i := 0) hq (.int .i64 u)).far (i := 1) hq (.string ⟨#[]⟩)).far (i := 2) hq (.int .i64 0)).far (i := 3) hq (.slice (some ⟨w8.heap.size, 0, none⟩) 2 2)
          refine ⟨by simp [Fm.kids], by simp [Fm.kids], by simp [Fm.kind]; omega, by simp [Fm.name], FmQ.two ⟨by omega, by rw [hsz]; exact hrs⟩ hrow ?_ ?_⟩
          · exact hva.keep (fun b hb => ⟨by have := hb.1; omega, by rw [hsz]; have := hb.2; omega⟩) fun b _ => rfl
          · exact hvb.keep (fun b hb => ⟨by have := hb.1; omega, by rw [hsz]; have := hb.2; omega⟩) fun b _ => rfl
    · replace HE := Lib.hid (HE.out.trans (show _ = (g (leftT l (k2 + 1))).bind (fun b t4 => needP [93] t4 fun t5 => .ok (.mk r [] 0 [a, b]) t5) by rw [h1, if_pos rfl, leftT_tail]))
      have hs5 := h3.size
      have HXA5 := Lib.hid (HXA.out.grown h3 (by simp; omega))
      have HVA5 : Hid (FmVQ w4 (fun b => w.heap.size < b ∧ b < w4.heap.size) a A1 c1) := Lib.hid (HVA.out.keep (fun b hb => ⟨hb.1, by omega⟩) (fun b hb => h3.block b hb.2 (by have := hb.1; simp; omega)))
      have HR5 := Lib.hid (HR2.out.grown h3 (by simp; omega))
      have HG5 := Lib.hid (grown_trans HG2.out h3)
      have HS5 := Lib.hid h2
      obtain ⟨k3, hk3⟩ : ∃ k3, k3 = k2 + 1 := ⟨_, rfl⟩
      rw [← hk3] at HE HS5
      have hk3' : k + 2 ≤ k3 := by omega
      clear h1 h2 h3 HS2 HG2 HR2 HXA HVA hk3
      generalize w4 = w5 at HXA5 HVA5 HR5 HG5 HS5 hs5 ⊢
      have HC := Lib.hid (HG.out w5 k3 HG5.out HS5.out (by omega))
      go_wp2_with fail
      refine HC.out.mono ?_
      clear HC
      intro e w6 hP
      have hk3l := HS5.out.k
      cases hr2 : g (leftT l k3) with
      | bad er m =>
        rw [hr2] at hP
        obtain ⟨rfl, hg⟩ := hP
        refine ⟨rfl, ?_⟩
        rw [HE.out, hr2]
        exact ⟨rfl, grown_trans HG5.out hg⟩
      | ok b tb2 =>
        rw [hr2] at hP
        obtain ⟨A2, c2, k4, rfl, hP⟩ := hP
        have hs6 := hP.g.size
        have hk4 : k3 ≤ k4 := hP.km
        replace HE := Lib.hid (HE.out.trans (by rw [hr2, PR.bind_ok, hP.t]))
        have hbB := stepA w6 (.cells #[.int .i64 b.kind, .string ⟨b.name.toArray⟩, .int .i64 b.lit, .slice A2 b.kids.length c2] 37)
        have HXB := Lib.hid (Blk.new w6 37 #[.int .i64 b.kind, .string ⟨b.name.toArray⟩, .int .i64 b.lit, .slice A2 b.kids.length c2])
        have hxr5 := HXA5.out.lt
        have HXA6 := Lib.hid ((HXA5.out.grown hP.g (by simp; omega)).alloc (.cells #[.int .i64 b.kind, .string ⟨b.name.toArray⟩, .int .i64 b.lit, .slice A2 b.kids.length c2] 37))
        have HVA6 : Hid (FmVQ (w6.alloc (.cells #[.int .i64 b.kind, .string ⟨b.name.toArray⟩, .int .i64 b.lit, .slice A2 b.kids.length c2] 37)) (fun q => w.heap.size < q ∧ q < (w6.alloc (.cells #[.int .i64 b.kind, .string ⟨b.name.toArray⟩, .int .i64 b.lit, .slice A2 b.kids.length c2] 37)).heap.size) a A1 c1) := Lib.hid ((HVA5.out.keep (w' := w6) (Q' := fun b => w.heap.size < b ∧ b < w6.heap.size) (fun b hb => ⟨hb.1, by omega⟩) (fun b hb => hP.g.block b hb.2 (by have := hb.1; simp; omega))).low (B := w6.heap.size) (fun b hb => ⟨hb.2, by simp only [World.size_alloc]; omega⟩) hbB)
        have HVB6 : Hid (FmVQ (w6.alloc (.cells #[.int .i64 b.kind, .string ⟨b.name.toArray⟩, .int .i64 b.lit, .slice A2 b.kids.length c2] 37)) (fun q => w.heap.size < q ∧ q < (w6.alloc (.cells #[.int .i64 b.kind, .string ⟨b.name.toArray⟩, .int .i64 b.lit, .slice A2 b.kids.length c2] 37)).heap.size) b A2 c2) := Lib.hid (hP.v.low (B := w6.heap.size) (fun b hb => ⟨hb.2, by simp only [World.size_alloc]; omega⟩) hbB)
        have HR6 := Lib.hid ((HR5.out.grown hP.g (by simp; omega)).alloc (.cells #[.int .i64 b.kind, .string ⟨b.name.toArray⟩, .int .i64 b.lit, .slice A2 b.kids.length c2] 37))
        have HG6 := Lib.hid (grown_trans (grown_trans HG5.out hP.g) (grown_of hbB _))
        have HS6 := Lib.hid (hP.s.after hbB)
        obtain ⟨xb, hxb⟩ : ∃ xb, xb = w6.heap.size := ⟨_, rfl⟩
        have hxbw : xa < xb := by omega
        rw [← hxb] at HXB
        clear hP hbB hr2 HG5 HR5 HXA5 HVA5 HS5
        unfold fmA
        go_wp2_with fail
        rw [← hxb]
        generalize w6.alloc (.cells #[.int .i64 b.kind, .string ⟨b.name.toArray⟩, .int .i64 b.lit, .slice A2 b.kids.length c2] 37) = w7 at HXA6 HXB HVA6 HVB6 HR6 HG6 HS6 ⊢
        clear hxb hs6
        refine (need_any hT HS6.out [93] (by decide)).mono ?_
        rintro e w8 (⟨h1, rfl, rfl⟩ | ⟨h1, rfl, h2, h3⟩)
        · refine ⟨rfl, ?_⟩
          rw [HE.out]
          unfold needP
          rw [h1, if_neg (by decide), leftT_len]
          exact ⟨rfl, HG6.out⟩
        replace HE := Lib.hid (HE.out.trans (show _ = PR.ok (.mk r [] 0 [a, b]) (leftT l (k4 + 1)) by unfold needP; rw [h1, if_pos rfl, leftT_tail]))
        have hs8 := h3.size
        have hxr7 := HXB.out.lt
        have hA8 := HXA6.out.grown h3 (by simp; omega)
        have hB8 := HXB.out.grown h3 (by simp; omega)
        have hR8 := HR6.out.grown h3 (by simp; omega)
        have HVA8 : Hid (FmVQ w8 (fun b => w.heap.size < b ∧ b < w8.heap.size) a A1 c1) := Lib.hid (HVA6.out.keep (fun b hb => ⟨hb.1, by omega⟩) (fun b hb => h3.block b hb.2 (by have := hb.1; simp; omega)))
        have HVB8 : Hid (FmVQ w8 (fun b => w.heap.size < b ∧ b < w8.heap.size) b A2 c2) := Lib.hid (HVB6.out.keep (fun b hb => ⟨hb.1, by omega⟩) (fun b hb => h3.block b hb.2 (by have := hb.1; simp; omega)))
        have HG8 := Lib.hid (grown_trans HG6.out h3)
        have HS8 := Lib.hid h2
        have a0 := hA8.cell 0
        have a1 := hA8.cell 1
        have a2 := hA8.cell 2
        have a3 := hA8.cell 3
        have b0 := hB8.cell 0
        have b1 := hB8.cell 1
        have b2 := hB8.cell 2
        have b3 := hB8.cell 3
        have HR8 := Lib.hid hR8
        have hr8 := hR8.lt
        clear h1 h2 h3 hA8 hB8 hR8 HR6 HG6 HS6 HXA6 HXB HVA6 HVB6
        go_wp2_with fail
        have hbC := stepA w8 (.cells #[.int .i64 a.kind, .string ⟨a.name.toArray⟩, .int .i64 a.lit, .slice A1 a.kids.length c1, .int .i64 b.kind, .string ⟨b.name.toArray⟩, .int .i64 b.lit, .slice A2 b.kids.length c2] 37)
        have HRW := Lib.hid (Blk.new w8 37 #[.int .i64 a.kind, .string ⟨a.name.toArray⟩, .int .i64 a.lit, .slice A1 a.kids.length c1, .int .i64 b.kind, .string ⟨b.name.toArray⟩, .int .i64 b.lit, .slice A2 b.kids.length c2])
        refine (of_any _ _ _ _ _).mono ?_
        rintro e w9 ⟨rfl, hb9⟩
        have HB9 := Lib.hid (step2 hbC hb9)
        have hR9 := HR8.out.below HB9.out hr8
        have x0 := hR9.frozen 0
        have x1 := hR9.frozen 1
        have x2 := hR9.frozen 2
        have x3 := hR9.frozen 3
        have y0 := hR9.cell 0
        have y1 := hR9.cell 1
        have y2 := hR9.cell 2
        have y3 := hR9.cell 3
        have HR9 := Lib.hid hR9
        have HRW9 := Lib.hid (HRW.out.below hb9 (by simp))
        have hs9 := HB9.out.size
        clear hbC hb9 hR9 HRW a0 a1 a2 a3 b0 b1 b2 b3
        go_wp2_with fail
        clear x0 x1 x2 x3 y0 y1 y2 y3
        have hZ := (((HR9.out.set_ 0 (.int .i64 r)).set_ 1 (.string ⟨#[]⟩)).set_ 2 (.int .i64 0)).set_ 3 (.slice (some ⟨w8.heap.size, 0, none⟩) 2 2)
        have z0 := hZ.cell 0
        have z1 := hZ.cell 1
        have z2 := hZ.cell 2
        have z3 := hZ.cell 3
        refine bodyPost_ret (v := .agg #[.int .i64 r, .string ⟨#[]⟩, .int .i64 0, .slice (some ⟨w8.heap.size, 0, none⟩) 2 2]) (by simp [results, Tryd.results107, go_sem, z0, z1, z2, z3]) rfl ?_
        rw [HE.out]
        have hq : ∀ b, (w.heap.size < b ∧ b < w8.heap.size) → b ≠ w.heap.size := fun b h => by omega
        have hsz : ((((w9.setCell ⟨w.heap.size, 0, none⟩ (.int .i64 r)).setCell ⟨w.heap.size, 1, none⟩ (.string ⟨#[]⟩)).setCell ⟨w.heap.size, 2, none⟩ (.int .i64 0)).setCell ⟨w.heap.size, 3, none⟩ (.slice (some ⟨w8.heap.size, 0, none⟩) 2 2)).heap.size = w9.heap.size := by simp [World.setCell]
        have hrs := HRW9.out.lt
        refine ⟨some ⟨w8.heap.size, 0, none⟩, 2, k4 + 1, rfl, by omega, ?_, ?_, ?_, rfl⟩
        · exact grown_new (grown_new (grown_new (grown_new (grown_trans HG8.out (grown_of HB9.out _)) (Nat.le_refl _) _) (Nat.le_refl _) _) (Nat.le_refl _) _) (Nat.le_refl _) _
        · exact ((((HS8.out.after HB9.out).far (by omega) (by omega) _).far (by omega) (by omega) _).far (by omega) (by omega) _).far (by omega) (by omega) _
        · have hrow := (((HRW9.out.far (p := ⟨w.heap.size, 0, none⟩) (by simp; omega) (.int .i64 r)).far (p := ⟨w.heap.size, 1, none⟩) (by simp; omega) (.string ⟨#[]⟩)).far (p := ⟨w.heap.size, 2, none⟩) (by simp; omega) (.int .i64 0)).far (p := ⟨w.heap.size, 3, none⟩) (by simp; omega) (.slice (some ⟨w8.heap.size, 0, none⟩) 2 2)
          have hva := ((((HVA8.out.low (B := w8.heap.size) (fun b hb => ⟨hb.2, hb⟩) HB9.out).far (i := 0) hq (.int .i64 r)).far (i := 1) hq (.string ⟨#[]⟩)).far (i := 2) hq (.int .i64 0)).far (i := 3) hq (.slice (some ⟨w8.heap.size, 0, none⟩) 2 2)
          have hvb := ((((HVB8.out.low (B := w8.heap.size) (fun b hb => ⟨hb.2, hb⟩) HB9.out).far (i := 0) hq (.int .i64 r)).far (i := 1) hq (.string ⟨#[]⟩)).far (i := 2) hq (.int .i64 0)).far (i := 3) hq (.slice (some ⟨w8.heap.size, 0, none⟩) 2 2)
          refine ⟨by simp [Fm.kids], by simp [Fm.kids], by simp [Fm.kind]; omega, by simp [Fm.name], FmQ.two ⟨by omega, by rw [hsz]; exact hrs⟩ hrow ?_ ?_⟩
          · exact hva.keep (fun b hb => ⟨by have := hb.1; omega, by rw [hsz]; have := hb.2; omega⟩) fun b _ => rfl
          · exact hvb.keep (fun b hb => ⟨by have := hb.1; omega, by rw [hsz]; have := hb.2; omega⟩) fun b _ => rfl
end
end Go.Proofs.YtijecfmblddanaaDoor
