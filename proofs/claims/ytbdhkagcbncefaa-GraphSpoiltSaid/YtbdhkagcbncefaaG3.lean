/- What literals are, by inputs: plain data. Layer 2: a literal by the variables' values. Layer 2, the document's: what all variables are. Layer 2, the document's: whether a literal is so. Facts that stay, each carried over a step by '.step'. A region that draws its order, walked once in an order of ours: what yields in every world that meets S may come at any time before S falls; what is left is forced. A region that draws its order, walked once in an order of ours, inside a fence (a round of a range over a function). What literals are, over graphs that grow: plain data. Values of three, and what they tell: plain data. Layer 2's laws, plain data. Layer 2: values of three, the small functions. Layer 2, the document's: what a literal is by inputs that may be either. Layer 2: what all variables are. Layer 2: what a literal is by inputs that may be either. Layer 2: whether a literal is so; the lowest bits of a number; two lists. Layer 2: lists of truth values, the lowest bits, 'awake'. -/
import Derived.Test.YtbdhkagcbncefaaPure
import Derived.Test.YtbdhkagcbncefaaG2
import Derived.Deep.RegionHeld3
import Derived.StillTail
import Derived.OrdersIn
import Derived.OwnWalkIn
import Derived.TacticsInMore
import Derived.Deep.QuietTactic
import Derived.BigQuiet
namespace Go.Proofs.Ytbdhkagcbncefaa

/-- A literal, by the variables' values. -/
def bitB (v : List Bool) (l : Int) : Bool := (v[(l / 2).toNat]?.getD false) != decide (l % 2 = 1)

def valsFrom (v : List Bool) (ps : List Pr) : List Bool := ps.foldl (fun v p => v ++ [bitB v p.1 && bitB v p.2]) v

theorem valsFrom_nil (v : List Bool) : valsFrom v [] = v := rfl
theorem valsFrom_snoc (v : List Bool) (ps : List Pr) (p : Pr) : valsFrom v (ps ++ [p]) = valsFrom v ps ++ [bitB (valsFrom v ps) p.1 && bitB (valsFrom v ps) p.2] := by
  unfold valsFrom
  rw [List.foldl_append]
  rfl
theorem valsFrom_length : ∀ (ps : List Pr) (v : List Bool), (valsFrom v ps).length = v.length + ps.length
  | [], v => by simp [valsFrom]
  | p :: ps, v => by
    have := valsFrom_length ps (v ++ [bitB v p.1 && bitB v p.2])
    unfold valsFrom at this ⊢
    rw [List.foldl_cons, this]
    simp
    omega

/-- The values behind so many gates. -/
def valsAt (g : Gr) (xs : List Bool) (k : Nat) : List Bool := valsFrom (false :: xs) (g.as.take k)

theorem valsAt_zero (g : Gr) (xs : List Bool) : valsAt g xs 0 = false :: xs := by simp [valsAt, valsFrom]
theorem valsAt_succ {g : Gr} {xs : List Bool} {k : Nat} {p : Pr} (h : g.as[k]? = some p) : valsAt g xs (k + 1) = valsAt g xs k ++ [bitB (valsAt g xs k) p.1 && bitB (valsAt g xs k) p.2] := by
  unfold valsAt
  rw [List.take_add_one, h, Option.toList_some, valsFrom_snoc]
theorem valsAt_length {g : Gr} {xs : List Bool} {k : Nat} (h : k ≤ g.as.length) : (valsAt g xs k).length = 1 + xs.length + k := by
  unfold valsAt
  rw [valsFrom_length, List.length_take, Nat.min_eq_left h]
  simp
  omega

def allG (g : Gr) (xs : List Bool) : List Bool := if rightB g && decide ((xs.length : Int) = g.n) then valsFrom (false :: xs) g.as else []
def evalG (g : Gr) (l : Int) (xs : List Bool) : Bool := decide (0 < (allG g xs).length) && (litB g l && bitB (allG g xs) l)

theorem allG_is {g : Gr} {xs : List Bool} (hr : rightB g = true) (hn : (xs.length : Int) = g.n) : allG g xs = valsAt g xs g.as.length := by
  unfold allG valsAt
  rw [hr, decide_eq_true hn, List.take_length]
  rfl

/-- A value of three: 0 no, 1 yes, 2 either. -/
def told3 (x : Int) : Int := if x = 0 ∨ x = 1 then x else 2
def turn3 (x : Int) : Int := if x = 2 then 2 else 1 - x
def bit3 (v : List Int) (l : Int) : Int := if l % 2 = 1 then turn3 (v[(l / 2).toNat]?.getD 0) else v[(l / 2).toNat]?.getD 0
def gate3 (a b : Int) : Int := if a = 0 ∨ b = 0 then 0 else if a = 1 ∧ b = 1 then 1 else 2

def vals3From (v : List Int) (ps : List Pr) : List Int := ps.foldl (fun v p => v ++ [gate3 (bit3 v p.1) (bit3 v p.2)]) v
def vals3At (g : Gr) (xs : List Int) (k : Nat) : List Int := vals3From (0 :: xs.map told3) (g.as.take k)
def threeG (g : Gr) (l : Int) (xs : List Int) : Int := if rightB g && (decide ((xs.length : Int) = g.n) && litB g l) then bit3 (vals3At g xs g.as.length) l else 2

theorem vals3From_snoc (v : List Int) (ps : List Pr) (p : Pr) : vals3From v (ps ++ [p]) = vals3From v ps ++ [gate3 (bit3 (vals3From v ps) p.1) (bit3 (vals3From v ps) p.2)] := by
  unfold vals3From
  rw [List.foldl_append]
  rfl
theorem vals3From_length : ∀ (ps : List Pr) (v : List Int), (vals3From v ps).length = v.length + ps.length
  | [], v => by simp [vals3From]
  | p :: ps, v => by
    have := vals3From_length ps (v ++ [gate3 (bit3 v p.1) (bit3 v p.2)])
    unfold vals3From at this ⊢
    rw [List.foldl_cons, this]
    simp
    omega
theorem vals3At_zero (g : Gr) (xs : List Int) : vals3At g xs 0 = 0 :: xs.map told3 := by simp [vals3At, vals3From]
theorem vals3At_succ {g : Gr} {xs : List Int} {k : Nat} {p : Pr} (h : g.as[k]? = some p) : vals3At g xs (k + 1) = vals3At g xs k ++ [gate3 (bit3 (vals3At g xs k) p.1) (bit3 (vals3At g xs k) p.2)] := by
  unfold vals3At
  rw [List.take_add_one, h, Option.toList_some, vals3From_snoc]
theorem vals3At_length {g : Gr} {xs : List Int} {k : Nat} (h : k ≤ g.as.length) : (vals3At g xs k).length = 1 + xs.length + k := by
  unfold vals3At
  rw [vals3From_length, List.length_take, Nat.min_eq_left h]
  simp
  omega

/-- One of three. -/
def Is3 (x : Int) : Prop := x = 0 ∨ x = 1 ∨ x = 2
theorem told3_is (x : Int) : Is3 (told3 x) := by unfold told3 Is3; split <;> omega
theorem gate3_is (a b : Int) : Is3 (gate3 a b) := by unfold gate3 Is3; split <;> (try split) <;> omega
theorem turn3_is {x : Int} (h : Is3 x) : Is3 (turn3 x) := by unfold Is3 at h ⊢; unfold turn3; split <;> omega
theorem bit3_is {v : List Int} (h : ∀ x ∈ v, Is3 x) (l : Int) : Is3 (bit3 v l) := by
  have hx : Is3 (v[(l / 2).toNat]?.getD 0) := by
    cases e : v[(l / 2).toNat]? with
    | none => exact .inl rfl
    | some x => exact h x (List.mem_of_getElem? e)
  unfold bit3
  split
  · exact turn3_is hx
  · exact hx
theorem vals3From_is : ∀ (ps : List Pr) (v : List Int), (∀ x ∈ v, Is3 x) → ∀ x ∈ vals3From v ps, Is3 x
  | [], v, h => h
  | p :: ps, v, h => vals3From_is ps (v ++ [gate3 (bit3 v p.1) (bit3 v p.2)]) fun x hx => by
    rcases List.mem_append.1 hx with hx | hx
    · exact h x hx
    · simp at hx
      rw [hx]
      exact gate3_is _ _
theorem vals3At_is (g : Gr) (xs : List Int) (k : Nat) : ∀ x ∈ vals3At g xs k, Is3 x := vals3From_is _ _ fun x hx => by
  rcases List.mem_cons.1 hx with rfl | hx
  · exact .inl rfl
  · obtain ⟨y, _, rfl⟩ := List.mem_map.1 hx
    exact told3_is y
end Go.Proofs.Ytbdhkagcbncefaa

namespace Go.Proofs.Ytbdhkagcbncefaa
open Go.RowKit Go.Maps

/-- Truth values as cells. -/
def bools (xs : List Bool) : List Value := xs.map (.bool ·)

theorem bools_length (xs : List Bool) : (bools xs).length = xs.length := by simp [bools]
theorem bools_snoc (xs : List Bool) (x : Bool) : bools (xs ++ [x]) = bools xs ++ [.bool x] := by simp [bools]
theorem bools_append (xs ys : List Bool) : bools (xs ++ ys) = bools xs ++ bools ys := by simp [bools]
theorem bools_one (xs : List Bool) : ∀ u ∈ bools xs, u.oneCell' = true := by
  intro u hu
  obtain ⟨x, _, rfl⟩ := List.mem_map.1 hu
  rfl

/-- The value at a literal's variable. -/
theorem bools_at {w : World} {B : Nat} {A : Option Addr} {v : List Bool} (h : Vals w B A (bools v)) {l : Int} (h0 : 0 ≤ l) (h1 : l / 2 < v.length) :
    ∃ b o x, A = some ⟨b, o, none⟩ ∧ b < B ∧ w.cell? ⟨b, o + (l / 2).toNat, none⟩ = some (.bool x) ∧ bitB v l = (x != decide (l % 2 = 1)) := by
  have hl : (l / 2).toNat < v.length := by omega
  obtain ⟨b, o, e, hb, hc⟩ := h.at_ (k := (l / 2).toNat) (by rw [bools_length]; exact hl)
  refine ⟨b, o, v[(l / 2).toNat], e, hb, by rw [hc]; simp [bools], ?_⟩
  unfold bitB
  rw [List.getElem?_eq_getElem hl]
  rfl

theorem and_i64 (a b : Nat) (ha : a < 9223372036854775808) (hb : b < 9223372036854775808) : bits .and .i64 (a : Int) (b : Int) = ((a &&& b : Nat) : Int) := by
  have hx : a &&& b < 9223372036854775808 := Nat.and_lt_two_pow (n := 63) a hb
  show IntKind.i64.wrap ((BitVec.ofInt 64 (a : Int) &&& BitVec.ofInt 64 (b : Int)).toNat : Int) = _
  rw [BitVec.toNat_and, ofInt64_nat a ha, ofInt64_nat b hb]
  exact IntWalk.i64_in _ (by omega)

theorem and_one (l : Int) (h0 : 0 ≤ l) (h1 : l ≤ 9223372036854775807) : bits .and .i64 l 1 = l % 2 := by
  have := and_i64 l.toNat 1 (by omega) (by omega)
  rw [Nat.and_one_is_mod] at this
  have e : ((l.toNat : Nat) : Int) = l := by omega
  rw [e] at this
  rw [show ((1 : Nat) : Int) = 1 from rfl] at this
  rw [this]
  omega

theorem odd_beq (l : Int) : (l % 2 == 1) = decide (l % 2 = 1) := by by_cases h : l % 2 = 1 <;> simp [h]

theorem rbit_any (v : List Bool) (l : Int) (A : Option Addr) (c : Nat) (w : World) (h0 : 0 ≤ l) (h1 : l / 2 < v.length) (h2 : l ≤ 9223372036854775807) (hv : Vals w w.heap.size A (bools v)) :
    Calls Try.prog 63 #[.slice A v.length c, .int .i64 l] w (Ret w (.bool (bitB v l))) := by
  obtain ⟨b, o, x, rfl, _, q, e⟩ := bools_at hv h0 h1
  have HE := Lib.hid e
  have hd : 0 ≤ l / 2 := by omega
  clear hv e
  go_enter Try.func63, Try.ntmps63
  go_wp2_with fail
  go_ret
  refine Ret.mk ?_ (Below.refl _ _)
  show Value.bool (!(x == (l % 2 == 1))) = _
  rw [HE.out, odd_beq]
  rfl

theorem ebit_still (v : List Bool) (l : Int) (A : Option Addr) (c p : Nat) (w : World) (h0 : 0 ≤ l) (h1 : l / 2 < v.length) (h2 : l ≤ 9223372036854775807) (hp : w.cell? ⟨p, 0, none⟩ = some (.slice A v.length c)) (hv : Vals w w.heap.size A (bools v)) :
    Calls Try.prog 62 #[.int .i64 l, .pointer (some ⟨p, 0, none⟩)] w (fun e w' => e = .returned (.bool (bitB v l)) ∧ w' = w) := by
  obtain ⟨b, o, x, rfl, _, q, e⟩ := bools_at hv h0 h1
  have HE := Lib.hid e
  have hd : 0 ≤ l / 2 := by omega
  clear hv e
  go_enter Try.func62, Try.ntmps62
  go_wp2_with fail
  go_ret
  refine ⟨?_, rfl⟩
  refine congrArg Ending.returned ?_
  show Value.bool (!(x == (bits .and .i64 l 1 == 1))) = _
  rw [HE.out, and_one l h0 h2, odd_beq]
  rfl
end Go.Proofs.Ytbdhkagcbncefaa

set_option linter.unusedVariables false
set_option linter.unusedSimpArgs false
namespace Go.Proofs.Ytbdhkagcbncefaa
open Go.RowKit Go.Maps

/-- A list of truth values is handed back. -/
def RetB (w : World) (v : List Bool) (e : Ending) (w' : World) : Prop :=
  ∃ A c, e = .returned (.slice A v.length c) ∧ v.length ≤ c ∧ Vals w' w'.heap.size A (bools v) ∧ Below w.heap.size w w'

theorem boolInfo : (Try.prog.info? 4).map (fun i => (i.zero, i.size, i.bytes)) = some (some (.bool false), 1, 1) := by kernel_rfl

/-- A right graph's gates look back. -/
theorem gate_lits {g : Gr} (hr : rightB g = true) {k : Nat} {p : Pr} (h : g.as[k]? = some p) : 0 ≤ p.1 ∧ p.1 / 2 < g.n + 1 + k ∧ 0 ≤ p.2 ∧ p.2 / 2 < g.n + 1 + k ∧ p.1 ≤ 4001 ∧ p.2 ≤ 4001 := by
  obtain ⟨⟨h0, h1, h2, h3⟩, hall, _⟩ := (right_iff g).1 hr
  have hm := hall k p h
  have hk := (List.getElem?_eq_some_iff.1 h).1
  obtain ⟨m1, m2, m3⟩ := (of_decide_eq_true hm : 2 ≤ p.2 ∧ p.2 / 2 < p.1 / 2 ∧ p.1 / 2 < g.n + 1 + k)
  omega

/-- The world with the parameter's box. -/
abbrev gBox (w : World) (g : Gr) (A : Option Addr) (c : Nat) : World := w.alloc (.cells #[.int .i64 g.n, .slice A g.as.length c] 24)

/-- What is known of a world within the call: the box stands, and all that was there before. -/
structure Boxed (w wr : World) (g : Gr) (A : Option Addr) (c : Nat) : Prop where
  below : Below (w.heap.size + 1) (gBox w g A c) wr

section
variable {w wr wr' : World} {g : Gr} {A : Option Addr} {c : Nat}
theorem gBox_size : (gBox w g A c).heap.size = w.heap.size + 1 := by simp [gBox]
theorem Boxed.begin_ : Boxed w (gBox w g A c) g A c := ⟨Below.refl _ _⟩
theorem Boxed.size (h : Boxed w wr g A c) : w.heap.size + 1 ≤ wr.heap.size := by have := h.below.size; rw [gBox_size] at this; exact this
theorem Boxed.blk (h : Boxed w wr g A c) : Blk wr w.heap.size 24 #[.int .i64 g.n, .slice A g.as.length c] := (Blk.new w _ _).below h.below (Nat.lt_succ_self _)
theorem Boxed.c0 (h : Boxed w wr g A c) : wr.cell? ⟨w.heap.size, 0, none⟩ = some (.int .i64 g.n) := h.blk.cell 0
theorem Boxed.c1 (h : Boxed w wr g A c) : wr.cell? ⟨w.heap.size, 1, none⟩ = some (.slice A g.as.length c) := h.blk.cell 1
theorem Boxed.low (h : Boxed w wr g A c) : Below w.heap.size w wr := ((Below.refl _ _).alloc (Nat.le_refl _) _).trans (h.below.mono (Nat.le_succ _))
theorem Boxed.step (h : Boxed w wr g A c) (hb : Below wr.heap.size wr wr') : Boxed w wr' g A c := ⟨h.below.trans (hb.mono h.size)⟩
theorem Boxed.alloc (h : Boxed w wr g A c) (o : Obj) : Boxed w (wr.alloc o) g A c := h.step ((Below.refl _ _).alloc (Nat.le_refl _) o)
theorem Boxed.grown (h : Boxed w wr g A c) {row : Option Nat} (hg : wr.grownBy wr' row) (hr : ∀ k, row = some k → w.heap.size + 1 ≤ k) : Boxed w wr' g A c := ⟨h.below.grown hg h.size hr⟩
theorem Boxed.prs (h : Boxed w wr g A c) (hp : Prs w w.heap.size A g.as) : Prs wr wr.heap.size A g.as := hp.after h.low
theorem Boxed.vals (h : Boxed w wr g A c) {B : Option Addr} {xs : List Value} (hx : Vals w w.heap.size B xs) : Vals wr wr.heap.size B xs := hx.after h.low
end

set_option maxRecDepth 100000 in
set_option maxHeartbeats 2000000 in
theorem rall_any (g : Gr) (xs : List Bool) (A B : Option Addr) (c d : Nat) (w : World) (hg : GOk g) (hc : g.as.length ≤ c) (hp : Prs w w.heap.size A g.as) (hd : xs.length ≤ d) (hl : xs.length ≤ 140737488355328) (hx : Vals w w.heap.size B (bools xs)) :
    Calls Try.prog 30 #[.agg #[.int .i64 g.n, .slice A g.as.length c], .slice B xs.length d] w (RetB w (allG g xs)) := by
  have hnot := @not_run Try.prog
  have HX := Lib.hid hx
  have HP := Lib.hid hp
  have HOK := Lib.hid hg
  have H0 := Lib.hid (Boxed.begin_ (w := w) (g := g) (A := A) (c := c))
  clear hp hx hg
  go_enter Try.func30, Try.ntmps30
  go_wp2_with fail
  refine (rright_any g A c _ HOK.out (H0.out.prs HP.out)).mono ?_
  rintro e w1 ⟨rfl, hb1⟩
  have H1 := Lib.hid (H0.out.step hb1)
  clear hb1
  have c0 := H1.out.c0
  have c1 := H1.out.c1
  cases hr : rightB g
  · have HE : Hid (allG g xs = []) := by show allG g xs = []; unfold allG; rw [hr]; rfl
    go_wp2_with fail
    go_ret
    rw [HE.out]
    exact ⟨none, 0, rfl, Nat.le_refl _, Vals.nil, H1.out.low⟩
  · by_cases hn : (xs.length : Int) = g.n
    · have HE : Hid (allG g xs = valsAt g xs g.as.length) := allG_is hr hn
      have HR := Lib.hid hr
      obtain ⟨g0, g1, g2, g3⟩ := (size_iff g).1 (right_size hr)
      have hl2 : xs.length ≤ 2000 := by omega
      obtain ⟨i0, hi0, hz0, hz1, hz2⟩ := info_parts boolInfo
      clear hr
      have HO1 := Lib.hid (World.ownsRow_lit (base := w.heap.size + 1) (e := 4) (size := 1) w1 #[.bool false] 1 H1.out.size (by unfold maxLen; omega) rfl)
      have H2 := Lib.hid (H1.out.alloc (.cells #[.bool false] 4))
      have hs := H1.out.size
      go_wp2_with (first
        | (at_builtin; refine wpList_append_vals _ rfl (.tmp 17) (.tmp 18) _ rfl (w.heap.size + 1) 4 i0 _ 1 1 Try.underlying25 hi0 hz0 hz1 hz2 rfl (by omega) (.slice (some ⟨w1.heap.size, 0, none⟩) 1 1) 1 [.bool false] rfl HO1.out _ B xs.length d (bools xs) rfl (by simp [bools]) (H2.out.vals HX.out) (bools_one xs) (by unfold maxLen; omega) (by omega) (by simp; omega) ?_; intro v1 w2 hown2 hg2; have H3 := Lib.hid (H2.out.grown hg2 (own_block HO1.out)); have HO2 := Lib.hid hown2; clear hown2 hg2 c0 c1; have c0 := H3.out.c0; have c1 := H3.out.c1))
      obtain ⟨A2, d2, hv2, _⟩ := own_form HO2.out
      subst hv2
      clear c0 c1 H0 H1 H2 HO1
      go_loopw [5, 6] (fun v i wr => ∃ (k : Nat) (A' : Option Addr) (c' : Nat), k ≤ g.as.length ∧ v = .slice A' (valsAt g xs k).length c' ∧ i = .int .i64 k ∧ wr.ownsRow (w.heap.size + 1) 4 1 (.slice A' (valsAt g xs k).length c') (valsAt g xs k).length (bools (valsAt g xs k)) ∧ Boxed w wr g A c) (fun _ i _ => g.as.length - (intOf i).toNat)
      case atStart =>
        have hl0 : (valsAt g xs 0).length = 1 + xs.length := by rw [valsAt_zero]; simp; omega
        refine ⟨0, A2, d2, Nat.zero_le _, by rw [hl0], rfl, ?_, H3.out⟩
        rw [hl0, valsAt_zero]
        exact HO2.out
      case round =>
        obtain ⟨k, A', c', hk, rfl, rfl, hown, hbx⟩ := hrel
        have HO := Lib.hid hown
        have HB := Lib.hid hbx
        have c0 := HB.out.c0
        have c1 := HB.out.c1
        have HVL : Hid ((valsAt g xs k).length = 1 + xs.length + k) := valsAt_length hk
        clear hown hbx H3 HO2
        by_cases hlt : k < g.as.length
        · have hlt' : (k : Int) < (g.as.length : Int) := by omega
          obtain ⟨⟨p1, p2⟩, hpk⟩ : ∃ q, g.as[k]? = some q := ⟨_, List.getElem?_eq_getElem hlt⟩
          obtain ⟨b', o', rfl, _, q1, q2⟩ := (HB.out.prs HP.out) k _ hpk
          obtain ⟨r1, r2, r3, r4, r5, r6⟩ := gate_lits HR.out hpk
          simp only at r1 r2 r3 r4 r5 r6
          have HPK := Lib.hid hpk
          clear hpk
          have v1' : p1 / 2 < ((valsAt g xs k).length : Int) := by rw [HVL.out]; omega
          have v2' : p2 / 2 < ((valsAt g xs k).length : Int) := by rw [HVL.out]; omega
          have V1 := Lib.hid v1'
          have V2 := Lib.hid v2'
          clear v1' v2'
          go_wp2_with fail
          refine (rbit_any (valsAt g xs k) p1 A' c' _ r1 V1.out (by omega) (Vals.of_own HO.out)).mono ?_
          rintro e w3 ⟨rfl, hb3⟩
          have HB3 := Lib.hid (HB.out.step hb3)
          have HO3 := Lib.hid (own_below HO.out hb3)
          clear hb3 HB HO c0 c1 q1 q2
          have c0 := HB3.out.c0
          have c1 := HB3.out.c1
          obtain ⟨b4, o4, e4, _, q1, q2⟩ := (HB3.out.prs HP.out) k _ HPK.out
          injection e4 with e4
          injection e4 with e4 e5
          subst e4 e5
          have hs3 := HB3.out.size
          cases hx1 : bitB (valsAt g xs k) p1
          · have HX1 := Lib.hid hx1
            clear hx1
            go_wp2_with (first | (at_builtin; refine wpList_append_vals _ rfl (.tmp 27) (.tmp 46) _ rfl (w.heap.size + 1) 4 i0 _ 1 1 Try.underlying25 hi0 hz0 hz1 hz2 rfl (by omega) (.slice A' (valsAt g xs k).length c') (valsAt g xs k).length (bools (valsAt g xs k)) rfl (HO3.out.alloc _) _ _ 1 1 [.bool false] rfl rfl (vals_new w3 [.bool false] 4) (bools_one [false]) (by rw [HVL.out]; unfold maxLen; omega) (by rw [HVL.out]; omega) (by simp; omega) ?_; intro v5 w5 hown5 hg5; have HO5 := Lib.hid hown5; have HB5 := Lib.hid ((HB3.out.alloc (.cells #[.bool false] 4)).grown hg5 (own_block HO3.out)); clear hown5 hg5))
            all_goals go_roundw
            case rel =>
              obtain ⟨A6, c6, hv6, _⟩ := own_form HO5.out
              subst hv6
              have hl6 : (valsAt g xs (k + 1)).length = (valsAt g xs k).length + 1 := by rw [valsAt_succ HPK.out]; simp
              refine ⟨k + 1, A6, c6, by omega, by rw [hl6], by go_num, ?_, HB5.out⟩
              rw [hl6, valsAt_succ HPK.out, bools_snoc, HX1.out, Bool.false_and]
              exact HO5.out
            case measure => simp [intOf]; omega
          · have HX1 := Lib.hid hx1
            clear hx1
            go_wp2_with fail
            refine (rbit_any (valsAt g xs k) p2 A' c' _ r3 V2.out (by omega) (Vals.of_own HO3.out)).mono ?_
            rintro e w4 ⟨rfl, hb4⟩
            have HB4 := Lib.hid (HB3.out.step hb4)
            have HO4 := Lib.hid (own_below HO3.out hb4)
            clear hb4 HB3 HO3 c0 c1 q1 q2
            have c0 := HB4.out.c0
            have c1 := HB4.out.c1
            have hs4 := HB4.out.size
            obtain ⟨y, hy⟩ : ∃ y, y = bitB (valsAt g xs k) p2 := ⟨_, rfl⟩
            rw [← hy]
            have HY := Lib.hid hy
            clear hy
            go_wp2_with (first | (at_builtin; refine wpList_append_vals _ rfl (.tmp 27) (.tmp 46) _ rfl (w.heap.size + 1) 4 i0 _ 1 1 Try.underlying25 hi0 hz0 hz1 hz2 rfl (by omega) (.slice A' (valsAt g xs k).length c') (valsAt g xs k).length (bools (valsAt g xs k)) rfl (HO4.out.alloc _) _ _ 1 1 [.bool y] rfl rfl (vals_new w4 [.bool y] 4) (bools_one [y]) (by rw [HVL.out]; unfold maxLen; omega) (by rw [HVL.out]; omega) (by simp; omega) ?_; intro v5 w5 hown5 hg5; have HO5 := Lib.hid hown5; have HB5 := Lib.hid ((HB4.out.alloc (.cells #[.bool y] 4)).grown hg5 (own_block HO4.out)); clear hown5 hg5))
            all_goals go_roundw
            case rel =>
              obtain ⟨A6, c6, hv6, _⟩ := own_form HO5.out
              subst hv6
              have hl6 : (valsAt g xs (k + 1)).length = (valsAt g xs k).length + 1 := by rw [valsAt_succ HPK.out]; simp
              refine ⟨k + 1, A6, c6, by omega, by rw [hl6], by go_num, ?_, HB5.out⟩
              rw [hl6, valsAt_succ HPK.out, bools_snoc, HX1.out, Bool.true_and, ← HY.out]
              exact HO5.out
            case measure => simp [intOf]; omega
        · have hlt' : ¬ ((k : Int) < (g.as.length : Int)) := by omega
          obtain rfl : k = g.as.length := by omega
          go_wp2_with fail
          go_ret
          rw [HE.out]
          exact ⟨A', c', rfl, own_cap HO.out, Vals.of_own HO.out, HB.out.low⟩
    · have HE : Hid (allG g xs = []) := by show allG g xs = []; unfold allG; rw [hr, decide_eq_false hn]; rfl
      have hn' : ¬ ((xs.length : Int) = g.n) := hn
      clear hr
      go_wp2_with fail
      go_ret
      rw [HE.out]
      exact ⟨none, 0, rfl, Nat.le_refl _, Vals.nil, H1.out.low⟩
end Go.Proofs.Ytbdhkagcbncefaa

namespace Go.Proofs.Ytbdhkagcbncefaa
open Go.RowKit Go.Maps

theorem lit_vals {g : Gr} {xs : List Bool} {l : Int} (ha : 0 < (allG g xs).length) (hl : litB g l = true) : 0 ≤ l ∧ l / 2 < ((allG g xs).length : Int) ∧ l ≤ 4001 := by
  unfold allG at ha ⊢
  split at ha
  · rename_i h
    rw [if_pos h]
    simp only [Bool.and_eq_true, decide_eq_true_eq] at h
    obtain ⟨hr, hn⟩ := h
    obtain ⟨a, b, c, d⟩ := (litB_iff g l).1 hl
    obtain ⟨h0, h1, h2, h3⟩ := (size_iff g).1 (right_size hr)
    rw [valsFrom_length]
    simp only [List.length_cons]
    omega
  · simp at ha

set_option maxRecDepth 100000 in
set_option maxHeartbeats 2000000 in
theorem reval_any (g : Gr) (l : Int) (xs : List Bool) (A B : Option Addr) (c d : Nat) (w : World) (hg : GOk g) (hc : g.as.length ≤ c) (hp : Prs w w.heap.size A g.as) (hd : xs.length ≤ d) (hl : xs.length ≤ 140737488355328) (hx : Vals w w.heap.size B (bools xs)) (hll : l ≤ 9223372036854775807) :
    Calls Try.prog 32 #[.agg #[.int .i64 g.n, .slice A g.as.length c], .int .i64 l, .slice B xs.length d] w (Ret w (.bool (evalG g l xs))) := by
  have HX := Lib.hid hx
  have HP := Lib.hid hp
  have HOK := Lib.hid hg
  have hgl : g.as.length ≤ 8796093022208 := hg.2.1
  have H0 := Lib.hid (Boxed.begin_ (w := w) (g := g) (A := A) (c := c))
  clear hp hx hg
  go_enter Try.func32, Try.ntmps32
  go_wp2_with fail
  refine (rall_any g xs A B c d _ HOK.out hc (H0.out.prs HP.out) hd hl (H0.out.vals HX.out)).mono ?_
  rintro e w1 ⟨A1, c1, rfl, hc1, hv1, hb1⟩
  have H1 := Lib.hid (H0.out.step hb1)
  have HV1 := Lib.hid hv1
  clear hb1 hv1
  have c0 := H1.out.c0
  have c1 := H1.out.c1
  by_cases hz : 0 < (allG g xs).length
  · have hz' : (0 : Int) < ((allG g xs).length : Int) := by omega
    go_wp2_with fail
    refine (rlit_any g l A c _ hgl hll).mono ?_
    rintro e w2 ⟨rfl, hb2⟩
    have H2 := Lib.hid (H1.out.step hb2)
    have HV2 := Lib.hid (HV1.out.after hb2)
    clear hb2 c0 c1
    cases hlt : litB g l
    · have HE : Hid (evalG g l xs = false) := by show evalG g l xs = false; unfold evalG; rw [hlt]; simp
      go_wp2_with fail
      go_ret
      exact Ret.mk (by rw [HE.out]; rfl) H2.out.low
    · have HE : Hid (evalG g l xs = bitB (allG g xs) l) := by show evalG g l xs = _; unfold evalG; rw [hlt, decide_eq_true hz]; simp
      obtain ⟨q0, q1, q2⟩ := lit_vals hz hlt
      have Q1 := Lib.hid q1
      clear q1
      go_wp2_with fail
      refine (rbit_any (allG g xs) l A1 _ _ q0 Q1.out hll HV2.out).mono ?_
      rintro e w3 ⟨rfl, hb3⟩
      have H3 := Lib.hid (H2.out.step hb3)
      clear hb3
      go_wp2_with fail
      go_ret
      exact Ret.mk (by rw [HE.out]; rfl) H3.out.low
  · have HE : Hid (evalG g l xs = false) := by show evalG g l xs = false; unfold evalG; rw [decide_eq_false hz]; rfl
    have hz' : ¬ ((0 : Int) < ((allG g xs).length : Int)) := by omega
    go_wp2_with fail
    go_ret
    exact Ret.mk (by rw [HE.out]; rfl) H1.out.low
end Go.Proofs.Ytbdhkagcbncefaa

namespace Go.Proofs.Ytbdhkagcbncefaa
open Go.RowKit Go.Maps

/-- All that stood when the call began stands. -/
structure Low (w0 w : World) : Prop where
  b : Below w0.heap.size w0 w

section
variable {w0 w w' : World} {B : Option Addr} {b : Nat} {t e : TypeId} {cs : Array Value} {ps : List Pr} {xs : List Value} {base sz n : Nat} {v : Value}
theorem Low.refl (w : World) : Low w w := ⟨Below.refl _ _⟩
theorem Low.step (h : Low w0 w) (hb : Below w.heap.size w w') : Low w0 w' := ⟨below2 h.b h.b.size hb⟩
theorem Low.grown (h : Low w0 w) {row : Option Nat} (hg : w.grownBy w' row) (hr : ∀ k, row = some k → w0.heap.size ≤ k) : Low w0 w' := ⟨h.b.grown hg h.b.size hr⟩
theorem Low.size (h : Low w0 w) : w0.heap.size ≤ w.heap.size := h.b.size
/-- A slice of pairs. -/
structure PrsF (w : World) (A : Option Addr) (ps : List Pr) : Prop where
  p : Prs w w.heap.size A ps
structure ValsF (w : World) (A : Option Addr) (xs : List Value) : Prop where
  p : Vals w w.heap.size A xs
structure OwnF (w : World) (base : Nat) (e : TypeId) (size : Nat) (v : Value) (n : Nat) (xs : List Value) : Prop where
  p : w.ownsRow base e size v n xs
structure BlkF (w : World) (g : Nat) (t : TypeId) (cs : Array Value) : Prop where
  p : Blk w g t cs
theorem PrsF.step (h : PrsF w B ps) (hb : Below w.heap.size w w') : PrsF w' B ps := ⟨h.p.after hb⟩
theorem ValsF.step (h : ValsF w B xs) (hb : Below w.heap.size w w') : ValsF w' B xs := ⟨h.p.after hb⟩
theorem OwnF.step (h : OwnF w base e sz v n xs) (hb : Below w.heap.size w w') : OwnF w' base e sz v n xs := ⟨own_below h.p hb⟩
theorem BlkF.step (h : BlkF w b t cs) (hb : Below w.heap.size w w') : BlkF w' b t cs := ⟨h.p.below hb h.p.lt⟩
theorem BlkF.new (w : World) (t : TypeId) (cs : Array Value) : BlkF (w.alloc (.cells cs t)) w.heap.size t cs := ⟨Blk.new w t cs⟩
theorem BlkF.cell (h : BlkF w b t cs) (i : Nat) : w.cell? ⟨b, i, none⟩ = cs[i]? := h.p.cell i
/-- A step that makes a block. -/
theorem stepA (w : World) (o : Obj) : Below w.heap.size w (w.alloc o) := (Below.refl _ _).alloc (Nat.le_refl _) o
theorem stepD (w : World) (n : Nat) : Below w.heap.size w (w.drewN n) := below_drewN (Below.refl _ _) n
theorem stepD1 (w : World) : Below w.heap.size w w.drew := (Below.refl _ _).drew
/-- One step behind another. -/
theorem step2 {w w1 w2 : World} (h : Below w.heap.size w w1) (h' : Below w1.heap.size w1 w2) : Below w.heap.size w w2 := below2 h h.size h'

/-- A row of the call's own is not a block of another type. -/
theorem own_ne {base' sz' n' : Nat} {v' : Value} {xs' : List Value} (h : w.ownsRow base' e sz' v' n' xs') (hb : Blk w b t cs) (hne : e ≠ t) : ∀ k, v'.ownBlock = some k → k ≠ b := by
  intro k hk
  rcases h.2 with ⟨rfl, _⟩ | ⟨g, cap, cur, rfl, hg, hh, _⟩
  · simp [Value.ownBlock] at hk
  · simp [Value.ownBlock] at hk
    subst hk
    rintro rfl
    unfold Blk at hb
    rw [hb] at hh
    injection hh with hh
    injection hh with _ h2
    exact hne h2.symm
/-- A store into a block of another type keeps the row. -/
theorem own_set {base' sz' n' : Nat} {v' : Value} {xs' : List Value} (h : w.ownsRow base' e sz' v' n' xs') (hb : Blk w b t cs) (hne : e ≠ t) (i : Nat) (u : Value) : (w.setCell ⟨b, i, none⟩ u).ownsRow base' e sz' v' n' xs' := by
  refine h.kept (grown_set (g := b) (World.grownBy.refl w _) i u) ?_
  cases hv : v'.ownBlock with
  | none => exact .inl rfl
  | some k => exact .inr (fun e' => own_ne h hb hne k hv (by injection e'))

/-- Two rows of the call's own that share no block. -/
def Apart (v u : Value) : Prop := ∀ k, v.ownBlock = some k → u.ownBlock ≠ some k
theorem Apart.symm {v u : Value} (h : Apart v u) : Apart u v := fun k hu hv => h k hv hu
theorem Apart.nil_ {u : Value} : Apart (.slice none 0 0) u := fun k hk => by simp [Value.ownBlock] at hk
theorem own_beside {base' sz' n' : Nat} {u v v' : Value} {xs' : List Value} (hu : w.ownsRow base' e sz' u n' xs') (hap : Apart v u) (hg : w.grownBy w' v.ownBlock) (hat : v'.ownBlock = v.ownBlock ∨ v'.ownBlock = some w.heap.size) :
    w'.ownsRow base' e sz' u n' xs' ∧ Apart v' u := by
  constructor
  · refine hu.kept hg ?_
    cases hk : u.ownBlock with
    | none => exact .inl rfl
    | some k => exact .inr (fun e' => hap k e'.symm hk)
  · intro k hk huk
    rcases hat with h | h
    · rw [h] at hk
      exact hap k hk huk
    · rw [h] at hk
      injection hk with hk
      have := (hu.lt k huk).2
      omega

/-- A cell of a block that is not the grown one. -/
theorem grown_cell {g o : Nat} {u : Value} {row : Option Nat} (hg : w.grownBy w' row) (hc : w.cell? ⟨g, o, none⟩ = some u) (hr : ∀ k, row = some k → k ≠ g) : w'.cell? ⟨g, o, none⟩ = some u := by
  rw [World.cell?_of_block (w := w) (hg.block g (block_lt_of_cell hc) (fun e => hr g e.symm rfl))]
  exact hc

/-- Growing a row of the call's own keeps what lies in other blocks. -/
theorem Blk.by_ (h : Blk w b t cs) {row : Option Nat} (hg : w.grownBy w' row) (hr : ∀ k, row = some k → k ≠ b) : Blk w' b t cs := h.grown hg (fun e => hr b e.symm rfl)
theorem Prs.grown (h : Prs w base B ps) {row : Option Nat} (hB : base ≤ w.heap.size) (hg : w.grownBy w' row) (hr : ∀ k, row = some k → base ≤ k) : Prs w' base B ps :=
  h.below ((Below.refl base w).grown hg hB hr)
theorem Vals.grown (h : Vals w base B xs) {row : Option Nat} (hB : base ≤ w.heap.size) (hg : w.grownBy w' row) (hr : ∀ k, row = some k → base ≤ k) : Vals w' base B xs :=
  h.below ((Below.refl base w).grown hg hB hr)
end
end Go.Proofs.Ytbdhkagcbncefaa

namespace Go.Proofs.Ytbdhkagcbncefaa
open Go.RowKit Go

section
variable {P : Program} {ops : Array Oper} {Q : Exit → Act → World → Prop} {md : Region.Mode} {S : World → Prop} {late mov : Nat → Bool}

/-- Whatever order is picked from here on; S holds behind every operation that is not late. -/
def wpAnyL (P : Program) (md : Region.Mode) (ops : Array Oper) (Q : Exit → Act → World → Prop) (S : World → Prop) (late : Nat → Bool) : Nat → Array Bool → Act → World → Prop
  | 0, listed, a, w => Region.ready md ops listed = [] ∧ Q .normal a w
  | fuel + 1, listed, a, w =>
    (Region.ready md ops listed = [] → Q .normal a w) ∧
    ∀ i ∈ Region.ready md ops listed, wpOp P ops Q i (fun a' w' => (late i = false → S w') ∧ wpAnyL P md ops Q S late fuel (listed.setIfInBounds i true) a' w') a w

theorem wpAny_of_L : ∀ (fuel : Nat) (listed : Array Bool) (a : Act) (w : World), wpAnyL P md ops Q S late fuel listed a w → wpAny P md ops Q fuel listed a w
  | 0, _, _, _, h => h
  | fuel + 1, _, _, _, h => ⟨h.1, fun i hi => wpOp_mono (fun a' w' h' => wpAny_of_L fuel _ a' w' h'.2) (h.2 i hi)⟩

theorem wpAnyL_first {i : Nat} {oi : Oper} {v : Value} (hi : ops[i]? = some oi) (hsel : ∀ (j : Nat) (o : Oper) cs b, ops[j]? = some o → o.op ≠ .select cs b)
    (hQ : ∀ c a w, Q (.panic c) (a.put oi.dst v) w → Q (.panic c) a w)
    (hlate : ∀ j, late j = true → Region.waitsFor md ops j i = true) :
    ∀ (fuel : Nat) (listed : Array Bool) (a : Act) (w : World),
      (∀ j oj, ops[j]? = some oj → j ≠ i → listed.getD j true = false → (∀ e ∈ oj.after, Region.binds md e = true → e.on ≠ i) → oi.apart ops oj = true) →
      i ∈ Region.ready md ops listed → YieldsIf P ops S oi v a → S w →
      wpAnyL P md ops Q S late fuel (listed.setIfInBounds i true) (a.put oi.dst v) w → wpAnyL P md ops Q S late (fuel + 1) listed a w := by
  intro fuel
  induction fuel with
  | zero =>
    intro listed a w _ hr hy hS H
    refine ⟨fun h => (by rw [h] at hr; cases hr), fun j hj => ?_⟩
    by_cases hji : j = i
    · subst hji; exact hy.wpOp hi hS ⟨fun _ => hS, H⟩
    · have := ready_mono hj hji
      rw [H.1] at this
      cases this
  | succ fuel ih =>
    intro listed a w hfree hr hy hS H
    refine ⟨fun h => (by rw [h] at hr; cases hr), fun j hj => ?_⟩
    by_cases hji : j = i
    · subst hji; exact hy.wpOp hi hS ⟨fun _ => hS, H⟩
    · have h1 := H.2 j (ready_mono hj hji)
      obtain ⟨hjun, oj, hoj, hall⟩ := mem_ready.1 hj
      have hnot : ∀ e ∈ oj.after, Region.binds md e = true → e.on ≠ i := fun e he hb heq => by
        have h1 := hall e he hb
        have h0 := (mem_ready.1 hr).1
        rw [heq] at h1
        rcases Nat.lt_or_ge i listed.size with h' | h'
        · simp [h'] at h0 h1; rw [h0] at h1; cases h1
        · simp [Array.getElem?_eq_none h'] at h1
      have hl : late j = false := by
        cases hl : late j with
        | false => rfl
        | true =>
          obtain ⟨o2, ho2, e, he, hb, heq⟩ := Region.waitsFor_spec (hlate j hl)
          rw [hoj] at ho2
          cases ho2
          exact absurd heq (hnot e he hb)
      have h2 := wpOp_putIf hoj (hfree j oj hoj hji hjun hnot) (fun cs b => hsel i oi cs b hi) (fun cs b => hsel j oj cs b hoj) hQ hy h1
      have hfree' : ∀ k ok, ops[k]? = some ok → k ≠ i → (listed.setIfInBounds j true).getD k true = false →
          (∀ e ∈ ok.after, Region.binds md e = true → e.on ≠ i) → oi.apart ops ok = true := fun k ok hk hki hun hno => by
        refine hfree k ok hk hki ?_ hno
        by_cases hjk : j = k
        · subst hjk; exact hjun
        · rw [getD_set_ne true hjk] at hun; exact hun
      refine wpOp_mono (fun a' w' h3 => ⟨h3.2.1, ih (listed.setIfInBounds j true) a' w' hfree' (ready_mono hr (Ne.symm hji)) h3.1 (h3.2.1 hl) ?_⟩) h2
      rw [Array.setIfInBounds_comm _ _ hji]
      exact h3.2.2

/-- The region's operations in an order of ours. -/
def wpSeq (P : Program) (ops : Array Oper) (Q : Exit → Act → World → Prop) (S : World → Prop) (mov late : Nat → Bool) : List Nat → Act → World → Prop
  | [], a, w => Q .normal a w
  | i :: is, a, w =>
    (mov i = true ∧ ∃ o v, ops[i]? = some o ∧ YieldsIf P ops S o v a ∧ wpSeq P ops Q S mov late is (a.put o.dst v) w) ∨
    (mov i = false ∧ wpOp P ops Q i (fun a' w' => (late i = false → S w') ∧ wpSeq P ops Q S mov late is a' w') a w)

/-- Is our order one that serves? -/
def seqB (md : Region.Mode) (ops : Array Oper) (mov late : Nat → Bool) : Bool → List Nat → Array Bool → Bool
  | _, [], listed => (Region.ready md ops listed).isEmpty
  | f, i :: is, listed =>
    bif mov i then f && ((Region.ready md ops listed).contains i && (Region.free md ops listed i && ((List.range ops.size).all (fun j => !late j || Region.waitsFor md ops j i) && seqB md ops mov late f is (listed.setIfInBounds i true))))
    else (Region.ready md ops listed == [i]) && seqB md ops mov late (f && !late i) is (listed.setIfInBounds i true)

theorem wpAnyL_seq (hsel : Region.noSelect ops = true) (hlt : ∀ j, late j = true → j < ops.size) (hQ : ∀ c a d v w, Q (.panic c) (Act.put a d v) w → Q (.panic c) a w) :
    ∀ (is : List Nat) (f : Bool) (listed : Array Bool) (a : Act) (w : World), seqB md ops mov late f is listed = true → (f = true → S w) → wpSeq P ops Q S mov late is a w → wpAnyL P md ops Q S late is.length listed a w
  | [], f, listed, a, w, hb, _, h => ⟨by simpa [seqB] using hb, h⟩
  | i :: is, f, listed, a, w, hb, hf, h => by
    rcases h with ⟨hm, o, v, ho, hy, h⟩ | ⟨hm, h⟩
    · rw [seqB, hm] at hb
      simp only [cond_true, Bool.and_eq_true] at hb
      obtain ⟨hf1, hr, hfr, hl, hb⟩ := hb
      refine wpAnyL_first ho (Region.noSelect_spec hsel) (fun c a w h => hQ c a _ v w h) (fun j hj => ?_) is.length listed a w (Region.free_spec ho hfr) (by simpa using hr) hy (hf hf1) ?_
      · have := List.all_eq_true.1 hl j (List.mem_range.2 (hlt j hj))
        rw [hj] at this
        simpa using this
      · exact wpAnyL_seq hsel hlt hQ is f _ _ _ hb hf h
    · rw [seqB, hm] at hb
      simp only [cond_false, Bool.and_eq_true, beq_iff_eq] at hb
      obtain ⟨hr, hb⟩ := hb
      refine ⟨fun h0 => (by rw [hr] at h0; cases h0), fun j hj => ?_⟩
      rw [hr] at hj
      obtain rfl : j = i := by simpa using hj
      refine wpOp_mono (fun a' w' h3 => ⟨h3.1, wpAnyL_seq hsel hlt hQ is (f && !late j) _ a' w' hb (fun h4 => ?_) h3.2⟩) h
      simp only [Bool.and_eq_true, Bool.not_eq_true'] at h4
      exact h3.1 h4.2

/-- A walk with fuel to spare. -/
theorem wpAny_fuel : ∀ (fuel k : Nat) (listed : Array Bool) (a : Act) (w : World), wpAny P md ops Q fuel listed a w → wpAny P md ops Q (fuel + k) listed a w
  | 0, 0, _, _, _, h => h
  | 0, k + 1, listed, a, w, h => by
    rw [Nat.zero_add]
    exact ⟨fun _ => h.2, fun i hi => by rw [h.1] at hi; cases hi⟩
  | fuel + 1, k, listed, a, w, h => by
    rw [Nat.add_right_comm]
    exact ⟨h.1, fun i hi => wpOp_mono (fun a' w' h' => wpAny_fuel fuel k _ a' w' h') (h.2 i hi)⟩

theorem wp_region_seq {id : Nat} {a : Act} {w : World} (S : World → Prop) (order movs lates : List Nat) (hm : P.follows .mixedOrders = true) (hsel : Region.noSelect ops = true)
    (hn : order.length = ops.size) (hlt : lates.all (fun j => decide (j < ops.size)) = true)
    (hb : seqB .any ops (fun i => movs.contains i) (fun i => lates.contains i) true order (Array.replicate ops.size false) = true)
    (hQ : ∀ c a d v w, Q (.panic c) (Act.put a d v) w → Q (.panic c) a w)
    (hS : S w.drew) (h : S w.drew → wpSeq P ops Q S (fun i => movs.contains i) (fun i => lates.contains i) order a w.drew) : (Code.region id ops true).wp P Q a w := by
  refine wp_region_any hm (wpAny_of_L (S := S) (late := fun i => lates.contains i) _ _ _ _ ?_)
  rw [← hn]
  refine wpAnyL_seq (mov := fun i => movs.contains i) hsel (fun j hj => ?_) hQ order true _ a _ (by rw [hn]; exact hb) (fun _ => hS) (h hS)
  have := List.all_eq_true.1 hlt j (by simpa using hj)
  simpa using this

theorem wpSeq_done {a : Act} {w : World} (h : Q .normal a w) : wpSeq P ops (NoPanic Q) S mov late [] a w := NoPanic.normal h
theorem wpSeq_mov {i : Nat} {is : List Nat} {a : Act} {w : World} (hm : mov i = true) (hi : (ops[i]?).isSome = true) (h : ∀ o, ops[i]? = some o → ∃ v, YieldsIf P ops S o v a ∧ wpSeq P ops Q S mov late is (a.put o.dst v) w) : wpSeq P ops Q S mov late (i :: is) a w := by
  obtain ⟨o, ho⟩ := Option.isSome_iff_exists.1 hi
  obtain ⟨v, hy, h⟩ := h o ho
  exact .inl ⟨hm, o, v, ho, hy, h⟩
theorem wpSeq_fix {i : Nat} {is : List Nat} {a : Act} {w : World} (hm : mov i = false) (hi : (ops[i]?).isSome = true)
    (h : ∀ o, ops[i]? = some o → ∀ K' : Act → World → Prop, Shut (∀ a w, (late i = false → S w) → wpSeq P ops Q S mov late is a w → K' a w) → if Region.wanted o (yielded ops a.tmps) = true then Oper.wp P o a w K' Q else K' (a.put o.dst undef) w) : wpSeq P ops Q S mov late (i :: is) a w := by
  obtain ⟨o, ho⟩ := Option.isSome_iff_exists.1 hi
  exact .inr ⟨hm, wpOp_step ho (fun K' hK => h o ho K' (fun a w h1 h2 => hK a w ⟨h1, h2⟩))⟩
end
end Go.Proofs.Ytbdhkagcbncefaa

namespace Go.Proofs.Ytbdhkagcbncefaa
open Go.RowKit Go

section
variable {F : Fence} {n : Nat} {P : Program} {ops : Array Oper} {Q : Exit → Act → World → Prop} {md : Region.Mode} {S : World → Prop} {late mov : Nat → Bool}

/-- No operation defers. -/
def noDefer (ops : Array Oper) : Bool := ops.all fun o => match o.op with | .defer _ => false | _ => true

theorem noDefer_sem (h : noDefer ops = true) {i : Nat} {o : Oper} (ho : ops[i]? = some o) (r : Option Nat) (ρ : Operand → Value) : o.semAt r ρ = execOp ρ o := by
  cases r with
  | none => simp [Oper.semAt]
  | some l =>
    refine Oper.semAt_some l ρ o fun c hc => ?_
    have := Array.all_eq_true'.1 h o (Array.mem_of_getElem? ho)
    rw [hc] at this
    cases this

def YieldsIn (P : Program) (ops : Array Oper) (S : World → Prop) (o : Oper) (v : Value) (a : Act) : Prop := YieldsIf P ops S o v a ∧ ∀ w, S w → o.about P w a.eval = none

theorem YieldsIn.wpOpIn {i : Nat} {o : Oper} {v : Value} {a : Act} (hd : noDefer ops = true) (hi : ops[i]? = some o) (hy : YieldsIn P ops S o v a)
    {K : Act → World → Prop} {w : World} (hS : S w) (h : K (a.put o.dst v) w) : wpOpIn F n P ops Q i K a w := by
  unfold Go.wpOpIn
  simp only [hi]
  have hab : ∀ f, o.about P w a.eval = some f → F.fn f := fun f hf => by rw [hy.2 w hS] at hf; cases hf
  rcases hy.1 with ⟨hw, hv⟩ | ⟨hw, rfl⟩
  · simp only [hw, if_true, Oper.wpIn, noDefer_sem hd hi, hv w hS, Oper.uponIn]; exact ⟨hab, h⟩
  · simp only [hw, Bool.false_eq_true, if_false]; exact ⟨hab, h⟩

theorem wpOpIn_putIf {j : Nat} {oi oj : Oper} {v : Value} (hd : noDefer ops = true) (hj : ops[j]? = some oj) (hap : oi.apart ops oj = true)
    (hsi : ∀ cs b, oi.op ≠ .select cs b) (hsj : ∀ cs b, oj.op ≠ .select cs b)
    (hQ : ∀ c a w, Q (.panic c) (a.put oi.dst v) w → Q (.panic c) a w) {K : Act → World → Prop} {a : Act} {w : World}
    (hy : YieldsIn P ops S oi v a) (h : wpOpIn F n P ops Q j K (a.put oi.dst v) w) :
    wpOpIn F n P ops Q j (fun a' w' => YieldsIn P ops S oi v a' ∧ K (a'.put oi.dst v) w') a w := by
  obtain ⟨h1, h2, h3⟩ := Oper.apart_spec hap
  have keep : ∀ (a : Act), YieldsIn P ops S oi v a → ∀ u, YieldsIn P ops S oi v (a.put oj.dst u) := fun a hy u =>
    ⟨hy.1.of_same (execOp_put oi hsi a oj.dst u h3) (wanted_put oi a oj.dst u h3), fun w hw => by rw [about_put oi w a oj.dst u h3]; exact hy.2 w hw⟩
  have keepD : ∀ d, YieldsIn P ops S oi v { a with defers := d :: a.defers } := fun d => ⟨hy.1.of_same rfl rfl, hy.2⟩
  have hsem := noDefer_sem hd hj
  unfold Go.wpOpIn at *
  simp only [hj] at h ⊢
  rw [wanted_put oj a oi.dst v h1, about_put oj w a oi.dst v h1] at h
  split
  · rename_i hw
    simp only [hw, if_true] at h
    unfold Oper.wpIn at *
    rw [about_put oj w a oi.dst v h1] at h
    refine ⟨h.1, ?_⟩
    have h := h.2
    rw [hsem, execOp_put oj hsj a oi.dst v h1] at h
    rw [hsem]
    generalize (execOp a.eval oj).run P w = r at *
    cases r with
    | ok x w' =>
      cases x <;> simp only [Oper.uponIn] at h ⊢
      case value u => exact ⟨keep a hy u, by rw [← Act.put_comm a v u h2]; exact h⟩
      case skip => exact ⟨keep a hy _, by rw [← Act.put_comm a v undef h2]; exact h⟩
      case defer d =>
        refine ⟨keep _ (keepD d) _, ?_⟩
        rw [← Act.put_comm _ v undef h2, ← Act.put_defers]
        exact h
      case enter f args =>
        refine ⟨h.1, CallsIn.mono h.2 fun e w'' he => ?_⟩
        cases e with
        | returned u => exact ⟨keep a hy u, by rw [← Act.put_comm a v u h2]; exact he⟩
        | panicked c => exact hQ _ _ _ he
        | outgrown => exact he
      case row row args => exact ⟨h.1, RowsIn.mono h.2 fun u w'' he => ⟨keep a hy u, by rw [← Act.put_comm a v u h2]; exact he⟩⟩
      case round l f tmps assign body =>
        refine ⟨h.1, RoundIn.mono h.2 fun e w'' he => ?_⟩
        cases e with
        | returned u => exact ⟨keep a hy u, by rw [← Act.put_comm a v u h2]; exact he⟩
        | panicked c => exact hQ _ _ _ he
        | outgrown => exact he
    | halt x w' =>
      cases x <;> simp only [Oper.uponIn] at h ⊢
      case panic u => exact hQ _ _ _ h
  · rename_i hw
    simp only [hw] at h
    exact ⟨h.1, keep a hy _, by rw [← Act.put_comm a v undef h2]; exact h.2⟩

def wpAnyLIn (F : Fence) (n : Nat) (P : Program) (md : Region.Mode) (ops : Array Oper) (Q : Exit → Act → World → Prop) (S : World → Prop) (late : Nat → Bool) : Nat → Array Bool → Act → World → Prop
  | 0, listed, a, w => Region.ready md ops listed = [] ∧ Q .normal a w
  | fuel + 1, listed, a, w =>
    (Region.ready md ops listed = [] → Q .normal a w) ∧
    ∀ i ∈ Region.ready md ops listed, wpOpIn F n P ops Q i (fun a' w' => (late i = false → S w') ∧ wpAnyLIn F n P md ops Q S late fuel (listed.setIfInBounds i true) a' w') a w

theorem wpAnyIn_of_L : ∀ (fuel : Nat) (listed : Array Bool) (a : Act) (w : World), wpAnyLIn F n P md ops Q S late fuel listed a w → wpAnyIn F n P md ops Q fuel listed a w
  | 0, _, _, _, h => h
  | fuel + 1, _, _, _, h => ⟨h.1, fun i hi => wpOpIn_mono (fun a' w' h' => wpAnyIn_of_L fuel _ a' w' h'.2) (h.2 i hi)⟩

theorem wpAnyLIn_first {i : Nat} {oi : Oper} {v : Value} (hd : noDefer ops = true) (hi : ops[i]? = some oi) (hsel : ∀ (j : Nat) (o : Oper) cs b, ops[j]? = some o → o.op ≠ .select cs b)
    (hQ : ∀ c a w, Q (.panic c) (a.put oi.dst v) w → Q (.panic c) a w)
    (hlate : ∀ j, late j = true → Region.waitsFor md ops j i = true) :
    ∀ (fuel : Nat) (listed : Array Bool) (a : Act) (w : World),
      (∀ j oj, ops[j]? = some oj → j ≠ i → listed.getD j true = false → (∀ e ∈ oj.after, Region.binds md e = true → e.on ≠ i) → oi.apart ops oj = true) →
      i ∈ Region.ready md ops listed → YieldsIn P ops S oi v a → S w →
      wpAnyLIn F n P md ops Q S late fuel (listed.setIfInBounds i true) (a.put oi.dst v) w → wpAnyLIn F n P md ops Q S late (fuel + 1) listed a w := by
  intro fuel
  induction fuel with
  | zero =>
    intro listed a w _ hr hy hS H
    refine ⟨fun h => (by rw [h] at hr; cases hr), fun j hj => ?_⟩
    by_cases hji : j = i
    · subst hji; exact hy.wpOpIn hd hi hS ⟨fun _ => hS, H⟩
    · have := ready_mono hj hji
      rw [H.1] at this
      cases this
  | succ fuel ih =>
    intro listed a w hfree hr hy hS H
    refine ⟨fun h => (by rw [h] at hr; cases hr), fun j hj => ?_⟩
    by_cases hji : j = i
    · subst hji; exact hy.wpOpIn hd hi hS ⟨fun _ => hS, H⟩
    · have h1 := H.2 j (ready_mono hj hji)
      obtain ⟨hjun, oj, hoj, hall⟩ := mem_ready.1 hj
      have hnot : ∀ e ∈ oj.after, Region.binds md e = true → e.on ≠ i := fun e he hb heq => by
        have h1 := hall e he hb
        have h0 := (mem_ready.1 hr).1
        rw [heq] at h1
        rcases Nat.lt_or_ge i listed.size with h' | h'
        · simp [h'] at h0 h1; rw [h0] at h1; cases h1
        · simp [Array.getElem?_eq_none h'] at h1
      have hl : late j = false := by
        cases hl : late j with
        | false => rfl
        | true =>
          obtain ⟨o2, ho2, e, he, hb, heq⟩ := Region.waitsFor_spec (hlate j hl)
          rw [hoj] at ho2
          cases ho2
          exact absurd heq (hnot e he hb)
      have h2 := wpOpIn_putIf hd hoj (hfree j oj hoj hji hjun hnot) (fun cs b => hsel i oi cs b hi) (fun cs b => hsel j oj cs b hoj) hQ hy h1
      have hfree' : ∀ k ok, ops[k]? = some ok → k ≠ i → (listed.setIfInBounds j true).getD k true = false →
          (∀ e ∈ ok.after, Region.binds md e = true → e.on ≠ i) → oi.apart ops ok = true := fun k ok hk hki hun hno => by
        refine hfree k ok hk hki ?_ hno
        by_cases hjk : j = k
        · subst hjk; exact hjun
        · rw [getD_set_ne true hjk] at hun; exact hun
      refine wpOpIn_mono (fun a' w' h3 => ⟨h3.2.1, ih (listed.setIfInBounds j true) a' w' hfree' (ready_mono hr (Ne.symm hji)) h3.1 (h3.2.1 hl) ?_⟩) h2
      rw [Array.setIfInBounds_comm _ _ hji]
      exact h3.2.2

def wpSeqIn (F : Fence) (n : Nat) (P : Program) (ops : Array Oper) (Q : Exit → Act → World → Prop) (S : World → Prop) (mov late : Nat → Bool) : List Nat → Act → World → Prop
  | [], a, w => Q .normal a w
  | i :: is, a, w =>
    (mov i = true ∧ ∃ o v, ops[i]? = some o ∧ YieldsIn P ops S o v a ∧ wpSeqIn F n P ops Q S mov late is (a.put o.dst v) w) ∨
    (mov i = false ∧ wpOpIn F n P ops Q i (fun a' w' => (late i = false → S w') ∧ wpSeqIn F n P ops Q S mov late is a' w') a w)

theorem wpAnyLIn_seq (hd : noDefer ops = true) (hsel : Region.noSelect ops = true) (hlt : ∀ j, late j = true → j < ops.size) (hQ : ∀ c a d v w, Q (.panic c) (Act.put a d v) w → Q (.panic c) a w) :
    ∀ (is : List Nat) (f : Bool) (listed : Array Bool) (a : Act) (w : World), seqB md ops mov late f is listed = true → (f = true → S w) → wpSeqIn F n P ops Q S mov late is a w → wpAnyLIn F n P md ops Q S late is.length listed a w
  | [], f, listed, a, w, hb, _, h => ⟨by simpa [seqB] using hb, h⟩
  | i :: is, f, listed, a, w, hb, hf, h => by
    rcases h with ⟨hm, o, v, ho, hy, h⟩ | ⟨hm, h⟩
    · rw [seqB, hm] at hb
      simp only [cond_true, Bool.and_eq_true] at hb
      obtain ⟨hf1, hr, hfr, hl, hb⟩ := hb
      refine wpAnyLIn_first hd ho (Region.noSelect_spec hsel) (fun c a w h => hQ c a _ v w h) (fun j hj => ?_) is.length listed a w (Region.free_spec ho hfr) (by simpa using hr) hy (hf hf1) ?_
      · have := List.all_eq_true.1 hl j (List.mem_range.2 (hlt j hj))
        rw [hj] at this
        simpa using this
      · exact wpAnyLIn_seq hd hsel hlt hQ is f _ _ _ hb hf h
    · rw [seqB, hm] at hb
      simp only [cond_false, Bool.and_eq_true, beq_iff_eq] at hb
      obtain ⟨hr, hb⟩ := hb
      refine ⟨fun h0 => (by rw [hr] at h0; cases h0), fun j hj => ?_⟩
      rw [hr] at hj
      obtain rfl : j = i := by simpa using hj
      refine wpOpIn_mono (fun a' w' h3 => ⟨h3.1, wpAnyLIn_seq hd hsel hlt hQ is (f && !late j) _ a' w' hb (fun h4 => ?_) h3.2⟩) h
      simp only [Bool.and_eq_true, Bool.not_eq_true'] at h4
      exact h3.1 h4.2

theorem wpIn_region_noPanic {id : Nat} {b : Bool} {a : Act} {w : World} (h : (Code.region id ops b).wpIn F n P (NoPanic Q) a w) : (Code.region id ops b).wpIn F n P Q a w :=
  wpIn_mono h NoPanic.imp

theorem wpIn_region_seq {id : Nat} {a : Act} {w : World} (S : World → Prop) (order movs lates : List Nat) (hm : P.follows .mixedOrders = true) (hsel : Region.noSelect ops = true) (hd : noDefer ops = true)
    (hn : order.length = ops.size) (hlt : lates.all (fun j => decide (j < ops.size)) = true)
    (hb : seqB .any ops (fun i => movs.contains i) (fun i => lates.contains i) true order (Array.replicate ops.size false) = true)
    (hQ : ∀ c a d v w, Q (.panic c) (Act.put a d v) w → Q (.panic c) a w)
    (hS : S w.drew) (h : S w.drew → wpSeqIn F n P ops Q S (fun i => movs.contains i) (fun i => lates.contains i) order a w.drew) : (Code.region id ops true).wpIn F n P Q a w := by
  refine wpIn_region_any hm (wpAnyIn_of_L (S := S) (late := fun i => lates.contains i) _ _ _ _ ?_)
  rw [← hn]
  refine wpAnyLIn_seq (mov := fun i => movs.contains i) hd hsel (fun j hj => ?_) hQ order true _ a _ (by rw [hn]; exact hb) (fun _ => hS) (h hS)
  have := List.all_eq_true.1 hlt j (by simpa using hj)
  simpa using this

theorem wpSeqIn_done {a : Act} {w : World} (h : Q .normal a w) : wpSeqIn F n P ops (NoPanic Q) S mov late [] a w := NoPanic.normal h
theorem wpSeqIn_mov {i : Nat} {is : List Nat} {a : Act} {w : World} (hm : mov i = true) (hi : (ops[i]?).isSome = true) (h : ∀ o, ops[i]? = some o → (∃ v, YieldsIf P ops S o v a ∧ wpSeqIn F n P ops Q S mov late is (a.put o.dst v) w) ∧ ∀ w, S w → o.about P w a.eval = none) : wpSeqIn F n P ops Q S mov late (i :: is) a w := by
  obtain ⟨o, ho⟩ := Option.isSome_iff_exists.1 hi
  obtain ⟨⟨v, hy, h⟩, hab⟩ := h o ho
  exact .inl ⟨hm, o, v, ho, ⟨hy, hab⟩, h⟩
theorem wpSeqIn_fix {i : Nat} {is : List Nat} {a : Act} {w : World} (hm : mov i = false) (hi : (ops[i]?).isSome = true)
    (h : ∀ o, ops[i]? = some o → ∀ K' : Act → World → Prop, Shut (∀ a w, (late i = false → S w) → wpSeqIn F n P ops Q S mov late is a w → K' a w) → if Region.wanted o (yielded ops a.tmps) = true then Oper.wpIn F n P o a w K' Q else (∀ f, o.about P w a.eval = some f → F.fn f) ∧ K' (a.put o.dst undef) w) : wpSeqIn F n P ops Q S mov late (i :: is) a w := by
  obtain ⟨o, ho⟩ := Option.isSome_iff_exists.1 hi
  exact .inr ⟨hm, wpOpIn_step ho (fun K' hK => h o ho K' (fun a w h1 h2 => hK a w ⟨h1, h2⟩))⟩
end
end Go.Proofs.Ytbdhkagcbncefaa

namespace Go.Proofs.Ytbdhkagcbncefaa

theorem valsFrom_append (v : List Bool) (ps qs : List Pr) : valsFrom v (ps ++ qs) = valsFrom (valsFrom v ps) qs := by
  unfold valsFrom
  rw [List.foldl_append]
theorem valsFrom_pre : ∀ (ps : List Pr) (v : List Bool), ∃ t : List Bool, valsFrom v ps = v ++ t
  | [], v => ⟨[], by simp [valsFrom]⟩
  | p :: ps, v => by
    obtain ⟨t, ht⟩ := valsFrom_pre ps (v ++ [bitB v p.1 && bitB v p.2])
    refine ⟨[bitB v p.1 && bitB v p.2] ++ t, ?_⟩
    unfold valsFrom at ht ⊢
    rw [List.foldl_cons, ht, List.append_assoc]

theorem bitB_append {v t : List Bool} {l : Int} (h0 : 0 ≤ l) (h1 : l / 2 < v.length) : bitB (v ++ t) l = bitB v l := by
  unfold bitB
  rw [List.getElem?_append_left (by omega)]

theorem bitB_flip {v : List Bool} {l : Int} (h0 : 0 ≤ l) : bitB v (flip l) = !bitB v l := by
  have e : (flip l / 2).toNat = (l / 2).toNat ∧ (flip l % 2 = 1 ↔ ¬ l % 2 = 1) := by
    unfold flip
    split <;> omega
  unfold bitB
  rw [e.1]
  by_cases h : l % 2 = 1
  · have h' : ¬ flip l % 2 = 1 := by rw [e.2]; simpa using h
    rw [decide_eq_true h, decide_eq_false h']
    cases v[(l / 2).toNat]?.getD false <;> rfl
  · have h' : flip l % 2 = 1 := e.2.2 h
    rw [decide_eq_false h, decide_eq_true h']
    cases v[(l / 2).toNat]?.getD false <;> rfl

/-- What a literal is by inputs. -/
def litV (g : Gr) (xs : List Bool) (l : Int) : Bool := bitB (valsFrom (false :: xs) g.as) l

theorem litV_flip {g : Gr} {xs : List Bool} {l : Int} (h : 0 ≤ l) : litV g xs (flip l) = !litV g xs l := bitB_flip h

theorem vals_len (g : Gr) (xs : List Bool) : (valsFrom (false :: xs) g.as).length = xs.length + 1 + g.as.length := by
  rw [valsFrom_length]
  simp

theorem lit_in {g : Gr} {xs : List Bool} {l : Int} (hn : (xs.length : Int) = g.n) (hl : litB g l = true) : 0 ≤ l ∧ l / 2 < ((valsFrom (false :: xs) g.as).length : Int) := by
  obtain ⟨_, _, h1, h2⟩ := (litB_iff g l).1 hl
  rw [vals_len]
  omega

theorem evalG_is {g : Gr} {xs : List Bool} {l : Int} (hr : rightB g = true) (hn : (xs.length : Int) = g.n) (hl : litB g l = true) : evalG g l xs = litV g xs l := by
  have e : allG g xs = valsFrom (false :: xs) g.as := by rw [allG_is hr hn]; unfold valsAt; rw [List.take_length]
  unfold evalG litV
  rw [e, hl, decide_eq_true (by rw [vals_len]; omega)]
  rfl

theorem litV_ext {g h : Gr} {xs : List Bool} {l : Int} (hx : Ext g h) (hn : (xs.length : Int) = g.n) (hl : litB g l = true) : litV h xs l = litV g xs l := by
  obtain ⟨_, qs, e⟩ := hx
  unfold litV
  rw [e, valsFrom_append]
  obtain ⟨t, ht⟩ := valsFrom_pre qs (valsFrom (false :: xs) g.as)
  rw [ht]
  obtain ⟨h0, h1⟩ := lit_in hn hl
  exact bitB_append h0 h1

/-- The values behind so many gates are the first of all values. -/
theorem valsAt_pre (g : Gr) (xs : List Bool) (k : Nat) : ∃ t : List Bool, valsFrom (false :: xs) g.as = valsAt g xs k ++ t := by
  obtain ⟨t, ht⟩ := valsFrom_pre (g.as.drop k) (valsAt g xs k)
  refine ⟨t, ?_⟩
  rw [← ht]
  unfold valsAt
  rw [← valsFrom_append, List.take_append_drop]

theorem litV_at {g : Gr} {xs : List Bool} {k : Nat} {l : Int} (hk : k ≤ g.as.length) (h0 : 0 ≤ l) (h1 : l / 2 < 1 + (xs.length : Int) + k) : litV g xs l = bitB (valsAt g xs k) l := by
  obtain ⟨t, ht⟩ := valsAt_pre g xs k
  unfold litV
  rw [ht]
  exact bitB_append h0 (by rw [valsAt_length hk]; omega)

theorem litV_gate {g : Gr} {xs : List Bool} {k : Nat} {p : Pr} (hr : rightB g = true) (hn : (xs.length : Int) = g.n) (h : g.as[k]? = some p) : litV g xs (2 * (g.n + 1 + k)) = (litV g xs p.1 && litV g xs p.2) := by
  have hk := (List.getElem?_eq_some_iff.1 h).1
  obtain ⟨_, hall, _⟩ := (right_iff g).1 hr
  obtain ⟨m1, m2, m3⟩ := (of_decide_eq_true (hall k p h) : 2 ≤ p.2 ∧ p.2 / 2 < p.1 / 2 ∧ p.1 / 2 < g.n + 1 + k)
  rw [litV_at (k := k + 1) (by omega) (by omega) (by omega), valsAt_succ h, litV_at (k := k) (l := p.1) (by omega) (by omega) (by omega), litV_at (k := k) (l := p.2) (by omega) (by omega) (by omega)]
  unfold bitB
  have e1 : (2 * (g.n + 1 + (k : Int)) / 2).toNat = (valsAt g xs k).length := by rw [valsAt_length (by omega)]; omega
  have e2 : ¬ (2 * (g.n + 1 + (k : Int)) % 2 = 1) := by omega
  rw [e1, decide_eq_false e2, List.getElem?_concat_length]
  simp

theorem litV_zero (g : Gr) (xs : List Bool) : litV g xs 0 = false := by
  rw [litV_at (k := 0) (Nat.zero_le _) (by omega) (by simp; omega), valsAt_zero]
  rfl
theorem litV_one (g : Gr) (xs : List Bool) : litV g xs 1 = true := by
  have := litV_flip (g := g) (xs := xs) (l := 0) (by omega)
  rw [litV_zero] at this
  exact this
theorem litV_input {g : Gr} {xs : List Bool} {i : Nat} {x : Bool} (h : xs[i]? = some x) : litV g xs (2 * ((i : Int) + 1)) = x := by
  have hi := (List.getElem?_eq_some_iff.1 h).1
  rw [litV_at (k := 0) (Nat.zero_le _) (by omega) (by simp; omega), valsAt_zero]
  unfold bitB
  have e1 : (2 * ((i : Int) + 1) / 2).toNat = i + 1 := by omega
  have e2 : ¬ (2 * ((i : Int) + 1) % 2 = 1) := by omega
  rw [e1, decide_eq_false e2, List.getElem?_cons_succ, h]
  simp

theorem litV_even {g : Gr} {xs : List Bool} {l : Int} (h0 : 0 ≤ l) (h1 : l % 2 = 0) : litV g xs (l + 1) = !litV g xs l := by
  have e : flip l = l + 1 := by unfold flip; rw [if_pos h1]
  rw [← e]
  exact litV_flip h0

theorem trivG_some {g : Gr} {xs : List Bool} {a b l : Int} (hb0 : 0 ≤ b) (hab : b ≤ a) (h : trivG a b = some l) : litV g xs l = (litV g xs a && litV g xs b) := by
  unfold trivG at h
  split at h
  · rename_i h1
    simp at h
    subst h
    rw [litV_zero]
    rcases h1 with rfl | ⟨h1, h2⟩
    · rw [litV_zero, Bool.and_false]
    · have e : a = b + 1 ∧ b % 2 = 0 := by omega
      rw [e.1, litV_even hb0 e.2]
      cases litV g xs b <;> rfl
  · split at h
    · rename_i h1
      simp at h
      subst h
      rcases h1 with rfl | rfl
      · rw [litV_one, Bool.and_true]
      · rw [Bool.and_self]
    · cases h

theorem andHi_sem {g : Gr} {xs : List Bool} {a b : Int} (hr : rightB g = true) (hn : (xs.length : Int) = g.n) (ha : litB g a = true) (hb : litB g b = true) (hab : b ≤ a) (he : (andHi g a b).2.2 = 0) :
    litV (andHi g a b).1 xs (andHi g a b).2.1 = (litV g xs a && litV g xs b) := by
  have hb0 := litB_ge hb
  have hg := andHi_grows hr ha hb hab he
  rcases andHi_cases g a b with ⟨ht, h⟩ | ⟨ht, h⟩ | ⟨ht, i, hp, h⟩ | ⟨ht, hp, hv, h⟩ | ⟨ht, hp, hv, h⟩
  · rw [h]; exact trivG_some hb0 hab ht
  · rw [h]; exact trivG_some hb0 hab ht
  · rw [h]
    exact litV_gate hr hn (placeOf_some hp)
  · rw [h] at he; cases he
  · rw [h] at hg ⊢
    have := litV_gate (xs := xs) (k := g.as.length) (p := (a, b)) hg.right (by simpa using hn) (by simp)
    simp only at this ⊢
    rw [show 2 * g.vars = 2 * (g.n + 1 + (g.as.length : Int)) from rfl, this]
    rw [litV_ext hg.ext hn ha, litV_ext hg.ext hn hb]

theorem andG_sem {g : Gr} {xs : List Bool} {a b : Int} (hn : (xs.length : Int) = g.n) (he : (andG g a b).2.2 = 0) : litV (andG g a b).1 xs (andG g a b).2.1 = (litV g xs a && litV g xs b) := by
  obtain ⟨hr, ha, hb, h⟩ := andG_zero he
  obtain ⟨h1, h2, h3⟩ := max_min ha hb
  rw [h] at he ⊢
  rw [andHi_sem hr hn h1 h2 h3 he]
  rcases Int.le_total a b with h | h
  · rw [Int.max_eq_right h, Int.min_eq_left h, Bool.and_comm]
  · rw [Int.max_eq_left h, Int.min_eq_right h]

/-- One of two right literals, where there is room. -/
theorem orG_sem {g : Gr} {xs : List Bool} {a b : Int} (hr : rightB g = true) (hn : (xs.length : Int) = g.n) (ha : litB g a = true) (hb : litB g b = true) (hv : g.vars < 2000) :
    (orG g a b).2.2 = 0 ∧ Grows g (orG g a b).1 (orG g a b).2.1 1 ∧ litV (orG g a b).1 xs (orG g a b).2.1 = (litV g xs a || litV g xs b) := by
  have he := andG_ok_of hr (flip_lit ha) (flip_lit hb) hv
  have hg := andG_grows he
  rw [orG_eq (litB_ge ha) (litB_ge hb) he]
  refine ⟨rfl, ⟨hg.right, flip_lit hg.lit, hg.n, hg.more⟩, ?_⟩
  simp only
  rw [litV_flip (litB_ge hg.lit), andG_sem hn he, litV_flip (litB_ge ha), litV_flip (litB_ge hb)]
  cases litV g xs a <;> cases litV g xs b <;> rfl

/-- The chosen one of two right literals, where there is room. -/
theorem iteG_sem {g : Gr} {xs : List Bool} {k a b : Int} (hr : rightB g = true) (hn : (xs.length : Int) = g.n) (hk : litB g k = true) (ha : litB g a = true) (hb : litB g b = true) (hv : g.vars < 1990) :
    (iteG g k a b).2.2 = 0 ∧ Grows g (iteG g k a b).1 (iteG g k a b).2.1 3 ∧ litV (iteG g k a b).1 xs (iteG g k a b).2.1 = if litV g xs k then litV g xs a else litV g xs b := by
  have k0 := litB_ge hk
  have e1 := andG_ok_of hr hk ha (by omega)
  have g1 := andG_grows e1
  have v1 := g1.vars
  have n1 : (xs.length : Int) = (andG g k a).1.n := hn.trans g1.n.symm
  have e2 := andG_ok_of g1.right (flip_lit (g1.ext.lit hk)) (g1.ext.lit hb) (by omega)
  have g2 := andG_grows e2
  have v2 := g2.vars
  have n2 : (xs.length : Int) = (andG (andG g k a).1 (flip k) b).1.n := n1.trans g2.n.symm
  obtain ⟨o1, o2, o3⟩ := orG_sem (xs := xs) g2.right n2 (g2.ext.lit g1.lit) g2.lit (by omega)
  have hi : iteG g k a b = orG (andG (andG g k a).1 (flip k) b).1 (andG g k a).2.1 (andG (andG g k a).1 (flip k) b).2.1 := by
    unfold iteG
    rw [if_neg (by omega)]
    simp only [e1, e2, if_true]
  rw [hi]
  obtain ⟨q1, f1, m1⟩ := g1.more
  obtain ⟨q2, f2, m2⟩ := g2.more
  obtain ⟨q3, f3, m3⟩ := o2.more
  refine ⟨o1, ⟨o2.right, o2.lit, o2.n.trans (g2.n.trans g1.n), q1 ++ (q2 ++ q3), by rw [f3, f2, f1]; simp, by simp; omega⟩, ?_⟩
  rw [o3, litV_ext g2.ext n1 g1.lit, andG_sem hn e1, andG_sem n1 e2, litV_flip k0, litV_ext g1.ext hn hk, litV_ext g1.ext hn hb]
  cases litV g xs k <;> simp

/-- The lowest bits of a number. -/
def bitsG (n : Int) (m : Nat) : List Bool := (List.range m).map fun i => decide (n / 2 ^ i % 2 = 1)

theorem bitsG_length (n : Int) (m : Nat) : (bitsG n m).length = m := by simp [bitsG]
theorem bitsG_succ (n : Int) (m : Nat) : bitsG n (m + 1) = bitsG n m ++ [decide (n / 2 ^ m % 2 = 1)] := by simp [bitsG, List.range_succ]
end Go.Proofs.Ytbdhkagcbncefaa

set_option linter.unusedVariables false
set_option linter.unusedSimpArgs false
namespace Go.Proofs.Ytbdhkagcbncefaa

/-- What is told of a value: it, or either. -/
def Tells (t : Int) (b : Bool) : Prop := t = 2 ∨ t = if b then 1 else 0
/-- y tells no more than x. -/
def Less3 (x y : Int) : Prop := y = 2 ∨ y = x

/-- Two lists, place by place. -/
def Each {α β : Type} (R : α → β → Prop) : List α → List β → Prop
  | [], [] => True
  | x :: xs, y :: ys => R x y ∧ Each R xs ys
  | _, _ => False

section
variable {α β : Type} {R : α → β → Prop}
theorem Each.length : ∀ {xs : List α} {ys : List β}, Each R xs ys → xs.length = ys.length
  | [], [], _ => rfl
  | _ :: _, _ :: _, h => by simp [h.2.length]
  | [], _ :: _, h => h.elim
  | _ :: _, [], h => h.elim
theorem Each.snoc : ∀ {xs : List α} {ys : List β} {x : α} {y : β}, Each R xs ys → R x y → Each R (xs ++ [x]) (ys ++ [y])
  | [], [], _, _, _, h => ⟨h, trivial⟩
  | _ :: _, _ :: _, _, _, h, h' => ⟨h.1, h.2.snoc h'⟩
  | [], _ :: _, _, _, h, _ => h.elim
  | _ :: _, [], _, _, h, _ => h.elim
theorem Each.at_ : ∀ {xs : List α} {ys : List β} {i : Nat} {x : α} {y : β}, Each R xs ys → xs[i]? = some x → ys[i]? = some y → R x y
  | [], [], i, x, y, _, h, _ => by simp at h
  | x :: xs, y :: ys, 0, a, b, h, h1, h2 => by simp at h1 h2; subst h1; subst h2; exact h.1
  | x :: xs, y :: ys, i + 1, a, b, h, h1, h2 => h.2.at_ (i := i) (by simpa using h1) (by simpa using h2)
  | [], _ :: _, _, _, _, h, _, _ => h.elim
  | _ :: _, [], _, _, _, h, _, _ => h.elim
theorem Each.get {xs : List α} {ys : List β} (h : Each R xs ys) (i : Nat) (d : α) (e : β) (hd : R d e) : R (xs[i]?.getD d) (ys[i]?.getD e) := by
  have hl := h.length
  by_cases hi : i < xs.length
  · have h1 := List.getElem?_eq_getElem hi
    have h2 := List.getElem?_eq_getElem (hl ▸ hi)
    rw [h1, h2]
    exact h.at_ h1 h2
  · rw [List.getElem?_eq_none (by omega), List.getElem?_eq_none (by omega)]
    exact hd
end

theorem tells_turn {t : Int} {b : Bool} (h : Tells t b) : Tells (turn3 t) (!b) := by
  unfold Tells turn3 at *
  cases b <;> rcases h with rfl | rfl <;> simp
theorem tells_gate {s t : Int} {a b : Bool} (h : Tells s a) (h' : Tells t b) : Tells (gate3 s t) (a && b) := by
  unfold Tells gate3 at *
  cases a <;> cases b <;> rcases h with rfl | rfl <;> rcases h' with rfl | rfl <;> simp
theorem less_turn {x y : Int} (h : Less3 x y) : Less3 (turn3 x) (turn3 y) := by
  unfold Less3 at *
  rcases h with rfl | rfl
  · exact .inl rfl
  · exact .inr rfl
theorem less_gate {x y s t : Int} (hx : Is3 x) (hs : Is3 s) (h : Less3 x y) (h' : Less3 s t) : Less3 (gate3 x s) (gate3 y t) := by
  unfold Less3 Is3 gate3 at *
  rcases hx with rfl | rfl | rfl <;> rcases hs with rfl | rfl | rfl <;> rcases h with rfl | rfl <;> rcases h' with rfl | rfl <;> simp

theorem tells_bit {v : List Int} {u : List Bool} (h : Each Tells v u) (l : Int) : Tells (bit3 v l) (bitB u l) := by
  have hg := h.get (l / 2).toNat 0 false (.inr rfl)
  unfold bit3 bitB
  by_cases hl : l % 2 = 1
  · rw [if_pos hl, decide_eq_true hl]
    have := tells_turn hg
    cases e : u[(l / 2).toNat]?.getD false <;> rw [e] at this <;> exact this
  · rw [if_neg hl, decide_eq_false hl]
    cases e : u[(l / 2).toNat]?.getD false <;> rw [e] at hg <;> exact hg
theorem less_bit {v u : List Int} (h : Each Less3 v u) (l : Int) : Less3 (bit3 v l) (bit3 u l) := by
  have hg := h.get (l / 2).toNat 0 0 (.inr rfl)
  unfold bit3
  by_cases hl : l % 2 = 1
  · rw [if_pos hl, if_pos hl]; exact less_turn hg
  · rw [if_neg hl, if_neg hl]; exact hg

theorem tells_from : ∀ (ps : List Pr) (v : List Int) (u : List Bool), Each Tells v u → Each Tells (vals3From v ps) (valsFrom u ps)
  | [], _, _, h => h
  | p :: ps, v, u, h => tells_from ps _ _ (h.snoc (tells_gate (tells_bit h p.1) (tells_bit h p.2)))
theorem less_from : ∀ (ps : List Pr) (v u : List Int), (∀ x ∈ v, Is3 x) → Each Less3 v u → Each Less3 (vals3From v ps) (vals3From u ps)
  | [], _, _, _, h => h
  | p :: ps, v, u, hv, h => less_from ps _ _ (fun x hx => by
      rcases List.mem_append.1 hx with hx | hx
      · exact hv x hx
      · simp at hx
        rw [hx]
        exact gate3_is _ _) (h.snoc (less_gate (bit3_is hv _) (bit3_is hv _) (less_bit h p.1) (less_bit h p.2)))

theorem each_map {α β γ δ : Type} {R : γ → δ → Prop} (f : α → γ) (g : β → δ) : ∀ {xs : List α} {ys : List β}, Each (fun x y => R (f x) (g y)) xs ys → Each R (xs.map f) (ys.map g)
  | [], [], _ => trivial
  | _ :: _, _ :: _, h => ⟨h.1, each_map f g h.2⟩
  | [], _ :: _, h => h.elim
  | _ :: _, [], h => h.elim

/-- What is told of inputs tells of a literal. -/
theorem threeG_tells {g : Gr} {l : Int} {xs : List Int} {u : List Bool} (hr : rightB g = true) (hn : (u.length : Int) = g.n) (hl : litB g l = true) (h : Each (fun x y => Tells (told3 x) y) xs u) : Tells (threeG g l xs) (evalG g l u) := by
  have hx := h.length
  have e : threeG g l xs = bit3 (vals3At g xs g.as.length) l := by
    unfold threeG
    rw [hr, hl, decide_eq_true (by omega : (xs.length : Int) = g.n)]
    rfl
  rw [e, evalG_is hr hn hl]
  unfold litV vals3At
  rw [List.take_length]
  have hm := each_map (R := Tells) told3 (fun b : Bool => b) h
  rw [List.map_id'] at hm
  have h0 : Each Tells (0 :: xs.map told3) (false :: u) := ⟨.inr rfl, hm⟩
  exact tells_bit (tells_from g.as _ _ h0) l
theorem threeG_less {g : Gr} {l : Int} {xs ys : List Int} (h : Each (fun x y => Less3 (told3 x) (told3 y)) xs ys) : Less3 (threeG g l xs) (threeG g l ys) := by
  have hx := h.length
  unfold threeG
  rw [hx]
  split
  · unfold vals3At
    rw [List.take_length]
    have h0 : Each Less3 (0 :: xs.map told3) (0 :: ys.map told3) := ⟨.inr rfl, each_map (R := Less3) told3 told3 h⟩
    refine less_bit (less_from g.as _ _ (fun x hx => ?_) h0) l
    rcases List.mem_cons.1 hx with rfl | hx
    · exact .inl rfl
    · obtain ⟨y, _, rfl⟩ := List.mem_map.1 hx
      exact told3_is y
  · exact .inr rfl
end Go.Proofs.Ytbdhkagcbncefaa

set_option linter.unusedVariables false
set_option linter.unusedSimpArgs false
namespace Go.Proofs.Ytbdhkagcbncefaa

theorem allG_length_le (g : Gr) (xs : List Bool) : (allG g xs).length ≤ 1 + xs.length + g.as.length := by
  unfold allG
  split
  · rw [valsFrom_length]; simp; omega
  · simp

/-- A truth value as one of three. -/
def zT (b : Bool) : Int := if b then 1 else 0
theorem zT_is (b : Bool) : zT b = 0 ∨ zT b = 1 := by cases b <;> simp [zT]
theorem zT_i64 (b : Bool) : 0 ≤ zT b ∧ zT b ≤ 1 := by cases b <;> simp [zT]

/-- t is just what b says. -/
def Exact3 (t : Int) (b : Bool) : Prop := t = zT b
theorem exact_turn {t : Int} {b : Bool} (h : Exact3 t b) : Exact3 (turn3 t) (!b) := by
  unfold Exact3 at *
  subst h
  cases b <;> rfl
theorem exact_gate {s t : Int} {a b : Bool} (h : Exact3 s a) (h' : Exact3 t b) : Exact3 (gate3 s t) (a && b) := by
  unfold Exact3 at *
  subst h
  subst h'
  cases a <;> cases b <;> rfl
theorem exact_bit {v : List Int} {u : List Bool} (h : Each Exact3 v u) (l : Int) : Exact3 (bit3 v l) (bitB u l) := by
  have hg := h.get (l / 2).toNat 0 false rfl
  unfold bit3 bitB
  by_cases hl : l % 2 = 1
  · rw [if_pos hl, decide_eq_true hl]
    have := exact_turn hg
    cases e : u[(l / 2).toNat]?.getD false <;> rw [e] at this <;> exact this
  · rw [if_neg hl, decide_eq_false hl]
    cases e : u[(l / 2).toNat]?.getD false <;> rw [e] at hg <;> exact hg
theorem exact_from : ∀ (ps : List Pr) (v : List Int) (u : List Bool), Each Exact3 v u → Each Exact3 (vals3From v ps) (valsFrom u ps)
  | [], _, _, h => h
  | p :: ps, v, u, h => exact_from ps _ _ (h.snoc (exact_gate (exact_bit h p.1) (exact_bit h p.2)))
theorem threeG_exact {g : Gr} {l : Int} {u : List Bool} (hr : rightB g = true) (hn : (u.length : Int) = g.n) (hl : litB g l = true) : threeG g l (u.map zT) = zT (evalG g l u) := by
  have e : threeG g l (u.map zT) = bit3 (vals3At g (u.map zT) g.as.length) l := by
    unfold threeG
    rw [hr, hl, decide_eq_true (by rw [List.length_map]; exact hn)]
    rfl
  rw [e, evalG_is hr hn hl]
  unfold litV vals3At
  rw [List.take_length]
  have hm : ∀ us : List Bool, Each Exact3 ((us.map zT).map told3) us := by
    intro us
    induction us with
    | nil => trivial
    | cons b us ih => exact ⟨by cases b <;> rfl, ih⟩
  have h0 : Each Exact3 (0 :: (u.map zT).map told3) (false :: u) := ⟨rfl, hm u⟩
  exact exact_bit (exact_from g.as _ _ h0) l

/-- A value, or either, where it is free. -/
def orFree (x : Int) (f : Bool) : Int := if f then 2 else x
def freed (xs : List Int) (fs : List Bool) : List Int := List.zipWith orFree xs fs

theorem freed_length (xs : List Int) (fs : List Bool) (h : fs.length = xs.length) : (freed xs fs).length = xs.length := by simp [freed, h]
theorem freed_snoc {xs : List Int} {fs : List Bool} {x : Int} {f : Bool} (h : xs.length = fs.length) : freed (xs ++ [x]) (fs ++ [f]) = freed xs fs ++ [orFree x f] := by
  unfold freed
  rw [List.zipWith_append h]
  rfl
theorem freed_tells : ∀ (us fs : List Bool), fs.length = us.length → Each (fun x y => Tells (told3 x) y) (freed (us.map zT) fs) us
  | [], fs, h => by simp at h; subst h; trivial
  | u :: us, [], h => by simp at h
  | u :: us, f :: fs, h => by
    refine ⟨?_, freed_tells us fs (by simpa using h)⟩
    cases f <;> cases u <;> simp [orFree, zT, told3, Tells]
theorem freed_less : ∀ (xs : List Int) (fs : List Bool), fs.length = xs.length → (∀ x ∈ xs, Is3 x) → Each (fun x y => Less3 (told3 x) (told3 y)) xs (freed xs fs)
  | [], fs, h, _ => by simp at h; subst h; trivial
  | x :: xs, [], h, _ => by simp at h
  | x :: xs, f :: fs, h, h3 => by
    refine ⟨?_, freed_less xs fs (by simpa using h) (fun y hy => h3 y (List.mem_cons_of_mem _ hy))⟩
    have hx := h3 x (by simp)
    unfold Is3 at hx
    cases f <;> rcases hx with rfl | rfl | rfl <;> simp [orFree, told3, Less3]

/-- A number's digits of two bits, each by a remainder. -/
def digG (t m : Int) (n : Nat) : List Int := (List.range n).map fun i => t / 2 ^ (2 * i) % m
theorem digG_length (t m : Int) (n : Nat) : (digG t m n).length = n := by simp [digG]
theorem digG_succ (t m : Int) (n : Nat) : digG t m (n + 1) = digG t m n ++ [t / 2 ^ (2 * n) % m] := by simp [digG, List.range_succ]
theorem digG_range {t m : Int} (hm : 0 < m) (n : Nat) : ∀ x ∈ digG t m n, 0 ≤ x ∧ x < m := by
  intro x hx
  obtain ⟨i, _, rfl⟩ := List.mem_map.1 hx
  exact ⟨Int.emod_nonneg _ (by omega), Int.emod_lt_of_pos _ hm⟩
theorem digG_is3 (t : Int) (n : Nat) : ∀ x ∈ digG t 3 n, Is3 x := by
  intro x hx
  have := digG_range (by omega) n x hx
  unfold Is3
  omega

/-! ### What all variables are -/
theorem allG_at {g : Gr} {xs : List Bool} (hr : rightB g = true) (hn : (xs.length : Int) = g.n) {i : Nat} {x : Bool} (h : (allG g xs)[i]? = some x) : litV g xs (2 * (i : Int)) = x := by
  have e : allG g xs = valsFrom (false :: xs) g.as := by rw [allG_is hr hn]; unfold valsAt; rw [List.take_length]
  rw [e] at h
  unfold litV bitB
  have e1 : (2 * (i : Int) / 2).toNat = i := by omega
  have e2 : ¬ (2 * (i : Int) % 2 = 1) := by omega
  rw [e1, decide_eq_false e2, h]
  simp
theorem allG_len {g : Gr} {xs : List Bool} (hr : rightB g = true) (hn : (xs.length : Int) = g.n) : ((allG g xs).length : Int) = g.n + 1 + g.as.length := by
  rw [allG_is hr hn, valsAt_length (Nat.le_refl _)]
  omega
theorem allG_first {g : Gr} {xs : List Bool} (hr : rightB g = true) (hn : (xs.length : Int) = g.n) : (allG g xs)[0]? = some false := by
  have hl := allG_len hr hn
  have h0 : (0 : Nat) < (allG g xs).length := by
    obtain ⟨a, _⟩ := right_vars hr
    omega
  have h := List.getElem?_eq_getElem h0
  have := allG_at hr hn h
  rw [h, ← this]
  exact congrArg some (litV_zero g xs)
theorem allG_lit {g : Gr} {xs : List Bool} (hr : rightB g = true) (hn : (xs.length : Int) = g.n) {i : Nat} (h : i < (allG g xs).length) : litB g (2 * (i : Int)) = true ∧ litB g (2 * (i : Int) + 1) = true := by
  have hl := allG_len hr hn
  exact ⟨lit_of hr (by omega) (by unfold Gr.vars; omega), lit_of hr (by omega) (by unfold Gr.vars; omega)⟩
/-- Each variable, by both its literals. -/
theorem allG_both {g : Gr} {xs : List Bool} (hr : rightB g = true) (hn : (xs.length : Int) = g.n) {i : Nat} {x : Bool} (h : (allG g xs)[i]? = some x) : evalG g (2 * (i : Int)) xs = x ∧ evalG g (2 * (i : Int) + 1) xs = !x := by
  obtain ⟨l1, l2⟩ := allG_lit hr hn (List.getElem?_eq_some_iff.1 h).1
  rw [evalG_is hr hn l1, evalG_is hr hn l2, litV_even (by omega) (by omega), allG_at hr hn h]
  exact ⟨rfl, rfl⟩
theorem allG_input {g : Gr} {xs : List Bool} (hr : rightB g = true) (hn : (xs.length : Int) = g.n) {i : Nat} {x y : Bool} (h : (allG g xs)[i + 1]? = some x) (hy : xs[i]? = some y) : x = y := by
  rw [← allG_at hr hn h, ← litV_input (g := g) hy]
  congr 1
theorem allG_gate {g : Gr} {xs : List Bool} (hr : rightB g = true) (hn : (xs.length : Int) = g.n) {i k : Nat} {x : Bool} {p : Pr} (h : (allG g xs)[i]? = some x) (hk : g.as[k]? = some p) (hi : (i : Int) = g.n + 1 + k) :
    x = (evalG g p.1 xs && evalG g p.2 xs) ∧ litB g p.1 = true ∧ litB g p.2 = true := by
  obtain ⟨_, hall, _⟩ := (right_iff g).1 hr
  obtain ⟨m1, m2, m3⟩ := (of_decide_eq_true (hall k p hk) : 2 ≤ p.2 ∧ p.2 / 2 < p.1 / 2 ∧ p.1 / 2 < g.n + 1 + k)
  have hkl := (List.getElem?_eq_some_iff.1 hk).1
  have l1 := lit_of hr (l := p.1) (by omega) (by unfold Gr.vars; omega)
  have l2 := lit_of hr (l := p.2) (by omega) (by unfold Gr.vars; omega)
  refine ⟨?_, l1, l2⟩
  rw [evalG_is hr hn l1, evalG_is hr hn l2, ← litV_gate hr hn hk, ← allG_at hr hn h, hi]

/-! ### What is made of literals -/
theorem Grows.len {g h : Gr} {l : Int} {k : Nat} (hg : Grows g h l k) {xs : List Bool} (hn : (xs.length : Int) = g.n) : (xs.length : Int) = h.n := hn.trans hg.n.symm
theorem evalG_grown {g h : Gr} {l m : Int} {k : Nat} {xs : List Bool} (hr : rightB g = true) (hg : Grows g h l k) (hn : (xs.length : Int) = g.n) (hm : litB g m = true) : evalG h m xs = evalG g m xs := by
  rw [evalG_is hg.right (hg.len hn) (hg.ext.lit hm), evalG_is hr hn hm, litV_ext hg.ext hn hm]
theorem evalG_and {g : Gr} {xs : List Bool} {a b : Int} (hn : (xs.length : Int) = g.n) (he : (andG g a b).2.2 = 0) : evalG (andG g a b).1 (andG g a b).2.1 xs = (evalG g a xs && evalG g b xs) := by
  obtain ⟨hr, ha, hb, _⟩ := andG_zero he
  have hg := andG_grows he
  rw [evalG_is hg.right (hg.len hn) hg.lit, evalG_is hr hn ha, evalG_is hr hn hb, andG_sem hn he]
theorem evalG_or {g : Gr} {xs : List Bool} {a b : Int} (hr : rightB g = true) (hn : (xs.length : Int) = g.n) (ha : litB g a = true) (hb : litB g b = true) (hv : g.vars < 2000) :
    (orG g a b).2.2 = 0 ∧ Grows g (orG g a b).1 (orG g a b).2.1 1 ∧ evalG (orG g a b).1 (orG g a b).2.1 xs = (evalG g a xs || evalG g b xs) := by
  obtain ⟨h1, h2, h3⟩ := orG_sem hr hn ha hb hv
  refine ⟨h1, h2, ?_⟩
  rw [evalG_is h2.right (h2.len hn) h2.lit, evalG_is hr hn ha, evalG_is hr hn hb, h3]
theorem evalG_ite {g : Gr} {xs : List Bool} {k a b : Int} (hr : rightB g = true) (hn : (xs.length : Int) = g.n) (hk : litB g k = true) (ha : litB g a = true) (hb : litB g b = true) (hv : g.vars < 1990) :
    (iteG g k a b).2.2 = 0 ∧ Grows g (iteG g k a b).1 (iteG g k a b).2.1 3 ∧ evalG (iteG g k a b).1 (iteG g k a b).2.1 xs = if evalG g k xs then evalG g a xs else evalG g b xs := by
  obtain ⟨h1, h2, h3⟩ := iteG_sem hr hn hk ha hb hv
  refine ⟨h1, h2, ?_⟩
  rw [evalG_is h2.right (h2.len hn) h2.lit, evalG_is hr hn hk, evalG_is hr hn ha, evalG_is hr hn hb, h3]
end Go.Proofs.Ytbdhkagcbncefaa

namespace Go.Proofs.Ytbdhkagcbncefaa
open Go.RowKit Go.Maps

/-- Numbers as cells. -/
def i64s (xs : List Int) : List Value := xs.map (.int .i64 ·)

theorem i64s_length (xs : List Int) : (i64s xs).length = xs.length := by simp [i64s]
theorem i64s_snoc (xs : List Int) (x : Int) : i64s (xs ++ [x]) = i64s xs ++ [.int .i64 x] := by simp [i64s]
theorem i64s_append (xs ys : List Int) : i64s (xs ++ ys) = i64s xs ++ i64s ys := by simp [i64s]
theorem i64s_one (xs : List Int) : ∀ u ∈ i64s xs, u.oneCell' = true := by
  intro u hu
  obtain ⟨x, _, rfl⟩ := List.mem_map.1 hu
  rfl
theorem i64s_at {xs : List Int} {i : Nat} {x : Int} (h : xs[i]? = some x) : (i64s xs)[i]? = some (.int .i64 x) := by
  unfold i64s
  rw [List.getElem?_map, h]
  rfl
theorem bools_get {xs : List Bool} {i : Nat} {x : Bool} (h : xs[i]? = some x) : (bools xs)[i]? = some (.bool x) := by
  unfold bools
  rw [List.getElem?_map, h]
  rfl

theorem told_any (x : Int) (w : World) : Calls Try.prog 65 #[.int .i64 x] w (fun e w' => e = .returned (.int .i64 (told3 x)) ∧ w' = w) := by
  by_cases h0 : x = 0
  · subst h0
    go_enter Try.func65, Try.ntmps65
    go_wp2_with fail
    go_ret
    exact ⟨rfl, rfl⟩
  · by_cases h1 : x = 1
    · subst h1
      go_enter Try.func65, Try.ntmps65
      go_wp2_with fail
      go_ret
      exact ⟨rfl, rfl⟩
    · have e0 : (x == 0) = false := by simpa using h0
      have e1 : (x == 1) = false := by simpa using h1
      have HE : Hid (told3 x = 2) := by show told3 x = 2; unfold told3; rw [if_neg (by omega)]
      clear h0 h1
      go_enter Try.func65, Try.ntmps65
      go_wp2_with fail
      go_ret
      exact ⟨by rw [HE.out]; rfl, rfl⟩

theorem gate_one (a b r : Int) (row : Value) (w : World) (h1 : ∀ w : World, (Instr.index 115 (.agg #[.int .i64 0, .int .i64 0, .int .i64 0, .int .i64 0, .int .i64 1, .int .i64 2, .int .i64 0, .int .i64 2, .int .i64 2]) (.int .i64 a)).run Try.prog w = .ok row w)
    (h2 : ∀ w : World, (Instr.index 114 row (.int .i64 b)).run Try.prog w = .ok (.int .i64 r) w) :
    Calls Try.prog 67 #[.int .i64 a, .int .i64 b] w (fun e w' => e = .returned (.int .i64 r) ∧ w' = w) := by
  go_enter Try.func67, Try.ntmps67
  go_wp2_with fail
  go_ret
  exact ⟨rfl, rfl⟩

theorem gate_any (a b : Int) (w : World) (ha : Is3 a) (hb : Is3 b) : Calls Try.prog 67 #[.int .i64 a, .int .i64 b] w (fun e w' => e = .returned (.int .i64 (gate3 a b)) ∧ w' = w) := by
  rcases ha with rfl | rfl | rfl <;> rcases hb with rfl | rfl | rfl
  · exact gate_one 0 0 0 (.agg #[.int .i64 0, .int .i64 0, .int .i64 0]) w (fun _ => by kernel_rfl) (fun _ => by kernel_rfl)
  · exact gate_one 0 1 0 (.agg #[.int .i64 0, .int .i64 0, .int .i64 0]) w (fun _ => by kernel_rfl) (fun _ => by kernel_rfl)
  · exact gate_one 0 2 0 (.agg #[.int .i64 0, .int .i64 0, .int .i64 0]) w (fun _ => by kernel_rfl) (fun _ => by kernel_rfl)
  · exact gate_one 1 0 0 (.agg #[.int .i64 0, .int .i64 1, .int .i64 2]) w (fun _ => by kernel_rfl) (fun _ => by kernel_rfl)
  · exact gate_one 1 1 1 (.agg #[.int .i64 0, .int .i64 1, .int .i64 2]) w (fun _ => by kernel_rfl) (fun _ => by kernel_rfl)
  · exact gate_one 1 2 2 (.agg #[.int .i64 0, .int .i64 1, .int .i64 2]) w (fun _ => by kernel_rfl) (fun _ => by kernel_rfl)
  · exact gate_one 2 0 0 (.agg #[.int .i64 0, .int .i64 2, .int .i64 2]) w (fun _ => by kernel_rfl) (fun _ => by kernel_rfl)
  · exact gate_one 2 1 2 (.agg #[.int .i64 0, .int .i64 2, .int .i64 2]) w (fun _ => by kernel_rfl) (fun _ => by kernel_rfl)
  · exact gate_one 2 2 2 (.agg #[.int .i64 0, .int .i64 2, .int .i64 2]) w (fun _ => by kernel_rfl) (fun _ => by kernel_rfl)

theorem turn_any (x : Int) (w : World) (hx : Is3 x) : Calls Try.prog 96 #[.int .i64 x] w (fun e w' => e = .returned (.int .i64 (turn3 x)) ∧ w' = w) := by
  rcases hx with rfl | rfl | rfl
  all_goals
    go_enter Try.func96, Try.ntmps96
    go_wp2_with fail
    go_ret
    exact ⟨rfl, rfl⟩

/-- The value at a literal's variable. -/
theorem i64s_lit {w : World} {B : Nat} {A : Option Addr} {v : List Int} (h : Vals w B A (i64s v)) (h3 : ∀ x ∈ v, Is3 x) {l : Int} (h0 : 0 ≤ l) (h1 : l / 2 < v.length) :
    ∃ b o x, A = some ⟨b, o, none⟩ ∧ b < B ∧ w.cell? ⟨b, o + (l / 2).toNat, none⟩ = some (.int .i64 x) ∧ Is3 x ∧ bit3 v l = if l % 2 = 1 then turn3 x else x := by
  have hl : (l / 2).toNat < v.length := by omega
  obtain ⟨b, o, e, hb, hc⟩ := h.at_ (k := (l / 2).toNat) (by rw [i64s_length]; exact hl)
  refine ⟨b, o, v[(l / 2).toNat], e, hb, by rw [hc]; simp [i64s], h3 _ (List.getElem_mem hl), ?_⟩
  unfold bit3
  rw [List.getElem?_eq_getElem hl]
  rfl

theorem rthree_any (v : List Int) (l : Int) (A : Option Addr) (c : Nat) (w : World) (h0 : 0 ≤ l) (h1 : l / 2 < v.length) (h2 : l ≤ 9223372036854775807) (hv : Vals w w.heap.size A (i64s v)) (h3 : ∀ x ∈ v, Is3 x) :
    Calls Try.prog 68 #[.slice A v.length c, .int .i64 l] w (fun e w' => e = .returned (.int .i64 (bit3 v l)) ∧ w' = w) := by
  obtain ⟨b, o, x, rfl, _, q, hx, e⟩ := i64s_lit hv h3 h0 h1
  have hd : 0 ≤ l / 2 := by omega
  clear hv h3
  by_cases hm : l % 2 = 1
  · have hm' : (l % 2 == 1) = true := by simpa using hm
    rw [if_pos hm] at e
    have HE := Lib.hid e
    have HX := Lib.hid hx
    clear e hm hx
    go_enter Try.func68, Try.ntmps68
    go_wp2_with fail
    refine (turn_any x _ HX.out).mono ?_
    rintro e w' ⟨rfl, rfl⟩
    go_wp2_with fail
    go_ret
    exact ⟨by rw [HE.out]; rfl, rfl⟩
  · have hm' : (l % 2 == 1) = false := by simpa using hm
    rw [if_neg hm] at e
    have HE := Lib.hid e
    have HX := Lib.hid hx
    clear e hm hx
    go_enter Try.func68, Try.ntmps68
    go_wp2_with fail
    go_ret
    exact ⟨by rw [HE.out]; rfl, rfl⟩

theorem ethree_still (v : List Int) (l : Int) (A : Option Addr) (c p : Nat) (w : World) (h0 : 0 ≤ l) (h1 : l / 2 < v.length) (h2 : l ≤ 9223372036854775807) (hp : w.cell? ⟨p, 0, none⟩ = some (.slice A v.length c)) (hv : Vals w w.heap.size A (i64s v)) (h3 : ∀ x ∈ v, Is3 x) :
    Calls Try.prog 66 #[.int .i64 l, .pointer (some ⟨p, 0, none⟩)] w (fun e w' => e = .returned (.int .i64 (bit3 v l)) ∧ w' = w) := by
  obtain ⟨b, o, x, rfl, _, q, hx, e⟩ := i64s_lit hv h3 h0 h1
  have hd : 0 ≤ l / 2 := by omega
  have HA : Hid (bits .and .i64 l 1 = l % 2) := and_one l h0 h2
  clear hv h3
  by_cases hm : l % 2 = 1
  · have hm' : (bits .and .i64 l 1 == 1) = true := by rw [HA.out]; simpa using hm
    rw [if_pos hm] at e
    rcases hx with rfl | rfl | rfl
    all_goals
      have HE := Lib.hid e
      clear e hm
      go_enter Try.func66, Try.ntmps66
      go_wp2_with fail
      go_ret
      exact ⟨by rw [HE.out]; rfl, rfl⟩
  · have hm' : (bits .and .i64 l 1 == 1) = false := by rw [HA.out]; simpa using hm
    rw [if_neg hm] at e
    have HE := Lib.hid e
    have HX := Lib.hid hx
    clear e hm hx
    go_enter Try.func66, Try.ntmps66
    go_wp2_with fail
    go_ret
    exact ⟨by rw [HE.out]; rfl, rfl⟩
end Go.Proofs.Ytbdhkagcbncefaa

set_option linter.unusedVariables false
set_option linter.unusedSimpArgs false
namespace Go.Proofs.Ytbdhkagcbncefaa
open Go.RowKit Go.Maps

/-- Inputs' values behind so many. -/
def toldAt (xs : List Int) (k : Nat) : List Int := 0 :: (xs.take k).map told3
theorem toldAt_zero (xs : List Int) : toldAt xs 0 = [0] := by simp [toldAt]
theorem toldAt_succ {xs : List Int} {k : Nat} {x : Int} (h : xs[k]? = some x) : toldAt xs (k + 1) = toldAt xs k ++ [told3 x] := by
  unfold toldAt
  rw [List.take_add_one, h]
  simp
theorem toldAt_length {xs : List Int} {k : Nat} (h : k ≤ xs.length) : (toldAt xs k).length = k + 1 := by
  simp [toldAt, Nat.min_eq_left h]
theorem toldAt_all (g : Gr) (xs : List Int) : toldAt xs xs.length = vals3At g xs 0 := by
  rw [vals3At_zero]
  simp [toldAt]

theorem lit3_vals {g : Gr} {xs : List Int} {l : Int} (hn : (xs.length : Int) = g.n) (hl : litB g l = true) : 0 ≤ l ∧ l / 2 < ((vals3At g xs g.as.length).length : Int) ∧ l ≤ 4001 ∨ rightB g = false := by
  cases hr : rightB g
  · exact .inr rfl
  · obtain ⟨a, b, c, d⟩ := (litB_iff g l).1 hl
    obtain ⟨h0, h1, h2, h3⟩ := (size_iff g).1 (right_size hr)
    rw [vals3At_length (Nat.le_refl _)]
    left
    omega

set_option maxRecDepth 100000 in
set_option maxHeartbeats 4000000 in
theorem rThree_any (g : Gr) (l : Int) (xs : List Int) (A B : Option Addr) (c d : Nat) (w : World) (hg : GOk g) (hc : g.as.length ≤ c) (hp : Prs w w.heap.size A g.as) (hl : xs.length ≤ 17592186044416) (hx : Vals w w.heap.size B (i64s xs)) (hll : l ≤ 9223372036854775807) :
    Calls Try.prog 34 #[.agg #[.int .i64 g.n, .slice A g.as.length c], .int .i64 l, .slice B xs.length d] w (Ret w (.int .i64 (threeG g l xs))) := by
  have hnot := @not_run Try.prog
  have HX := Lib.hid hx
  have HP := Lib.hid hp
  have HOK := Lib.hid hg
  have hgl : g.as.length ≤ 8796093022208 := hg.2.1
  have HB := Lib.hid (Boxed.begin_ (w := w) (g := g) (A := A) (c := c))
  clear hp hx hg
  go_enter Try.func34, Try.ntmps34
  go_wp2_with fail
  refine (rright_any g A c _ HOK.out (HB.out.prs HP.out)).mono ?_
  rintro e w1 ⟨rfl, hb⟩
  replace HB := Lib.hid (HB.out.step hb)
  clear hb
  have c0 := HB.out.c0
  have c1 := HB.out.c1
  cases hr : rightB g
  · have HE : Hid (threeG g l xs = 2) := by show threeG g l xs = 2; unfold threeG; rw [hr]; rfl
    go_wp2_with fail
    go_ret
    exact Ret.mk (by rw [HE.out]; first | done | rfl) HB.out.low
  · by_cases hn : (xs.length : Int) = g.n
    · have HR := Lib.hid hr
      have HR' : Hid (rightB g = true) := hr
      clear hr
      have HN := Lib.hid hn
      go_wp2_with fail
      refine (rlit_any g l A c _ hgl hll).mono ?_
      rintro e w2 ⟨rfl, hb⟩
      replace HB := Lib.hid (HB.out.step hb)
      clear hb
      replace c0 := HB.out.c0
      replace c1 := HB.out.c1
      cases hlt : litB g l
      · have HE : Hid (threeG g l xs = 2) := by show threeG g l xs = 2; unfold threeG; rw [hlt]; simp
        go_wp2_with fail
        go_ret
        exact Ret.mk (by rw [HE.out]; first | done | rfl) HB.out.low
      · have HE : Hid (threeG g l xs = bit3 (vals3At g xs g.as.length) l) := by show threeG g l xs = _; unfold threeG; rw [hlt, HR.out, decide_eq_true HN.out]; rfl
        have HL : Hid (0 ≤ l ∧ l / 2 < ((vals3At g xs g.as.length).length : Int) ∧ l ≤ 4001) := by
          rcases lit3_vals HN.out hlt with h | h
          · exact h
          · rw [HR.out] at h; cases h
        obtain ⟨g0, g1, g2, g3⟩ := (size_iff g).1 (right_size HR.out)
        have hl2 : xs.length ≤ 2000 := by omega
        obtain ⟨i0, hi0, hz0, hz1, hz2⟩ := info_parts intInfo
        clear hlt
        have HO1 := Lib.hid (World.ownsRow_lit (base := w.heap.size + 1) (e := 3) (size := 1) w2 #[.int .i64 0] 1 HB.out.size (by unfold maxLen; omega) rfl)
        replace HB := Lib.hid (HB.out.alloc (.cells #[.int .i64 0] 3))
        clear c0 c1
        go_wp2_with fail
        go_loopw [7, 8] (fun v i wr => ∃ (k : Nat) (A' : Option Addr) (c' : Nat), k ≤ xs.length ∧ v = .slice A' (toldAt xs k).length c' ∧ i = .int .i64 k ∧ OwnF wr (w.heap.size + 1) 3 1 (.slice A' (toldAt xs k).length c') (toldAt xs k).length (i64s (toldAt xs k)) ∧ Boxed w wr g A c) (fun _ i _ => xs.length - (intOf i).toNat)
        case atStart =>
          refine ⟨0, some ⟨w2.heap.size, 0, none⟩, 1, Nat.zero_le _, by rw [toldAt_zero]; rfl, rfl, ⟨?_⟩, HB.out⟩
          rw [toldAt_zero]
          exact HO1.out
        case round =>
          obtain ⟨k, A', c', hk, rfl, rfl, hown, hbx⟩ := hrel
          clear HB HO1
          have HO := Lib.hid hown
          have HB := Lib.hid hbx
          have HVL : Hid ((toldAt xs k).length = k + 1) := toldAt_length hk
          clear hown hbx
          by_cases hlt : k < xs.length
          · have hlt' : (k : Int) < (xs.length : Int) := by omega
            obtain ⟨x, hxk⟩ : ∃ q, xs[k]? = some q := ⟨_, List.getElem?_eq_getElem hlt⟩
            obtain ⟨b', o', rfl, _, q1⟩ := (HB.out.vals HX.out) k _ (i64s_at hxk)
            have HXK := Lib.hid hxk
            clear hxk
            have hs := HB.out.size
            obtain ⟨y, hy, hyx⟩ : ∃ y, y = told3 x ∧ ((x = 0 ∧ y = 0) ∨ (x = 1 ∧ y = 1) ∨ ((x != 0) = true ∧ (x != 1) = true ∧ y = 2)) := by
              refine ⟨_, rfl, ?_⟩
              unfold told3
              by_cases h0 : x = 0
              · left; subst h0; exact ⟨rfl, rfl⟩
              · by_cases h1 : x = 1
                · right; left; subst h1; exact ⟨rfl, rfl⟩
                · right; right; rw [if_neg (by omega)]; exact ⟨by simpa using h0, by simpa using h1, rfl⟩
            have HY := Lib.hid hy
            clear hy
            rcases hyx with ⟨rfl, rfl⟩ | ⟨rfl, rfl⟩ | ⟨x0, x1, rfl⟩
            · go_wp2_with (first | (at_builtin; refine wpList_append_vals _ rfl (.tmp 46) (.tmp 48) _ rfl (w.heap.size + 1) 3 i0 _ 1 8 Try.underlying26 hi0 hz0 hz1 hz2 rfl (by omega) (.slice A' (toldAt xs k).length c') (toldAt xs k).length (i64s (toldAt xs k)) rfl (HO.out.p.alloc _) _ _ 1 1 [.int .i64 0] rfl rfl (vals_new wr [.int .i64 0] 3) (i64s_one [0]) (by rw [HVL.out]; unfold maxLen; omega) (by rw [HVL.out]; omega) (by simp; omega) ?_; intro v5 w5 hown5 hg5; have HO5 := Lib.hid hown5; have HB5 := Lib.hid ((HB.out.alloc (.cells #[.int .i64 0] 3)).grown hg5 (own_block HO.out.p)); clear hown5 hg5))
              go_roundw
              case rel =>
                obtain ⟨A6, c6, hv6, _⟩ := own_form HO5.out
                subst hv6
                have hl6 : (toldAt xs (k + 1)).length = (toldAt xs k).length + 1 := by rw [toldAt_succ HXK.out]; simp
                refine ⟨k + 1, A6, c6, by omega, by rw [hl6], by go_num, ⟨?_⟩, HB5.out⟩
                rw [hl6, toldAt_succ HXK.out, i64s_snoc, ← HY.out]
                exact HO5.out
              case measure => simp [intOf]; omega
            · go_wp2_with (first | (at_builtin; refine wpList_append_vals _ rfl (.tmp 46) (.tmp 48) _ rfl (w.heap.size + 1) 3 i0 _ 1 8 Try.underlying26 hi0 hz0 hz1 hz2 rfl (by omega) (.slice A' (toldAt xs k).length c') (toldAt xs k).length (i64s (toldAt xs k)) rfl (HO.out.p.alloc _) _ _ 1 1 [.int .i64 1] rfl rfl (vals_new wr [.int .i64 1] 3) (i64s_one [1]) (by rw [HVL.out]; unfold maxLen; omega) (by rw [HVL.out]; omega) (by simp; omega) ?_; intro v5 w5 hown5 hg5; have HO5 := Lib.hid hown5; have HB5 := Lib.hid ((HB.out.alloc (.cells #[.int .i64 1] 3)).grown hg5 (own_block HO.out.p)); clear hown5 hg5))
              go_roundw
              case rel =>
                obtain ⟨A6, c6, hv6, _⟩ := own_form HO5.out
                subst hv6
                have hl6 : (toldAt xs (k + 1)).length = (toldAt xs k).length + 1 := by rw [toldAt_succ HXK.out]; simp
                refine ⟨k + 1, A6, c6, by omega, by rw [hl6], by go_num, ⟨?_⟩, HB5.out⟩
                rw [hl6, toldAt_succ HXK.out, i64s_snoc, ← HY.out]
                exact HO5.out
              case measure => simp [intOf]; omega
            · go_wp2_with (first | (at_builtin; refine wpList_append_vals _ rfl (.tmp 46) (.tmp 48) _ rfl (w.heap.size + 1) 3 i0 _ 1 8 Try.underlying26 hi0 hz0 hz1 hz2 rfl (by omega) (.slice A' (toldAt xs k).length c') (toldAt xs k).length (i64s (toldAt xs k)) rfl (HO.out.p.alloc _) _ _ 1 1 [.int .i64 2] rfl rfl (vals_new wr [.int .i64 2] 3) (i64s_one [2]) (by rw [HVL.out]; unfold maxLen; omega) (by rw [HVL.out]; omega) (by simp; omega) ?_; intro v5 w5 hown5 hg5; have HO5 := Lib.hid hown5; have HB5 := Lib.hid ((HB.out.alloc (.cells #[.int .i64 2] 3)).grown hg5 (own_block HO.out.p)); clear hown5 hg5))
              go_roundw
              case rel =>
                obtain ⟨A6, c6, hv6, _⟩ := own_form HO5.out
                subst hv6
                have hl6 : (toldAt xs (k + 1)).length = (toldAt xs k).length + 1 := by rw [toldAt_succ HXK.out]; simp
                refine ⟨k + 1, A6, c6, by omega, by rw [hl6], by go_num, ⟨?_⟩, HB5.out⟩
                rw [hl6, toldAt_succ HXK.out, i64s_snoc, ← HY.out]
                exact HO5.out
              case measure => simp [intOf]; omega
          · have hlt' : ¬ ((k : Int) < (xs.length : Int)) := by omega
            obtain rfl : k = xs.length := by omega
            have HTA := Lib.hid (toldAt_all g xs)
            rw [HTA.out] at HO HVL
            rw [HTA.out]
            clear hlt
            go_wp2_with fail
            obtain ⟨wo, rfl⟩ : ∃ wo : World, wo = wr := ⟨_, rfl⟩
            go_loopw [7, 10] (fun v i wr => ∃ (k : Nat) (A' : Option Addr) (c' : Nat), k ≤ g.as.length ∧ v = .slice A' (vals3At g xs k).length c' ∧ i = .int .i64 k ∧ OwnF wr (w.heap.size + 1) 3 1 (.slice A' (vals3At g xs k).length c') (vals3At g xs k).length (i64s (vals3At g xs k)) ∧ Boxed w wr g A c) (fun _ i _ => g.as.length - (intOf i).toNat)
            case atStart => exact ⟨0, A', c', Nat.zero_le _, rfl, rfl, HO.out, HB.out⟩
            case round =>
              clear HO HB HVL
              obtain ⟨k, A', c', hk, rfl, rfl, hown, hbx⟩ := hrel
              have HO := Lib.hid hown
              have HB := Lib.hid hbx
              have HVL : Hid ((vals3At g xs k).length = 1 + xs.length + k) := vals3At_length hk
              have H3 := Lib.hid (vals3At_is g xs k)
              have c0 := HB.out.c0
              have c1 := HB.out.c1
              clear hown hbx
              by_cases hlt : k < g.as.length
              · have hlt2 : (k : Int) < (g.as.length : Int) := by omega
                obtain ⟨⟨p1, p2⟩, hpk⟩ : ∃ q, g.as[k]? = some q := ⟨_, List.getElem?_eq_getElem hlt⟩
                obtain ⟨b', o', rfl, _, q1, q2⟩ := (HB.out.prs HP.out) k _ hpk
                obtain ⟨r1, r2, r3, r4, r5, r6⟩ := gate_lits HR.out hpk
                simp only at r1 r2 r3 r4 r5 r6
                have HPK := Lib.hid hpk
                clear hpk
                have V1 : Hid (p1 / 2 < ((vals3At g xs k).length : Int)) := by show p1 / 2 < _; rw [HVL.out]; omega
                have V2 : Hid (p2 / 2 < ((vals3At g xs k).length : Int)) := by show p2 / 2 < _; rw [HVL.out]; omega
                have HT1 := Lib.hid (fun w : World => fun h => rthree_any (vals3At g xs k) p1 A' c' w r1 V1.out (by omega) h H3.out)
                have HT2 := Lib.hid (fun w : World => fun h => rthree_any (vals3At g xs k) p2 A' c' w r3 V2.out (by omega) h H3.out)
                have HI1 := Lib.hid (bit3_is H3.out p1)
                have HI2 := Lib.hid (bit3_is H3.out p2)
                have HS : Hid (vals3At g xs (k + 1) = vals3At g xs k ++ [gate3 (bit3 (vals3At g xs k) p1) (bit3 (vals3At g xs k) p2)]) := vals3At_succ HPK.out
                generalize bit3 (vals3At g xs k) p1 = y1 at HT1 HI1 HS
                generalize bit3 (vals3At g xs k) p2 = y2 at HT2 HI2 HS
                have hs := HB.out.size
                go_wp2_with fail
                refine wp_region_noPanic ?_
                refine wp_region_seq (fun W => W.cell? ⟨w.heap.size, 1, none⟩ = some (.slice (some ⟨b', o', none⟩) g.as.length c) ∧ W.cell? ⟨b', o' + k * 2, none⟩ = some (.int .i64 p1) ∧ W.cell? ⟨b', o' + k * 2 + 1, none⟩ = some (.int .i64 p2)) [0, 1, 2, 3, 4, 5, 6, 8, 9, 10, 11, 12, 13, 14, 7, 15, 16, 17] [0, 1, 2, 3, 4, 5, 6, 8, 9, 10, 11, 12, 13, 14, 16, 17] [] (by kernel_rfl) (by kernel_rfl) rfl (by kernel_rfl) (by kernel_rfl) (fun _ _ _ _ _ h => h) ⟨c1, q1, q2⟩ (fun hSS => ?_)
                (refine wpSeq_mov rfl rfl ?_; intro o ho; simp only [List.getElem?_toArray, List.getElem?_cons_zero, List.getElem?_cons_succ, Option.some.injEq] at ho; subst ho; refine ⟨?_, Or.inl ⟨by rfl, fun W hSW => ?_⟩, ?_⟩; rotate_left; (focus (go_simp; first | done | with_reducible rfl)); try simp only [Act.put, List.setIfInBounds_toArray, List.set_cons_zero, List.set_cons_succ])
                (refine wpSeq_mov rfl rfl ?_; intro o ho; simp only [List.getElem?_toArray, List.getElem?_cons_zero, List.getElem?_cons_succ, Option.some.injEq] at ho; subst ho; refine ⟨?_, Or.inl ⟨by rfl, fun W hSW => ?_⟩, ?_⟩; rotate_left; (focus (go_simp; first | done | with_reducible rfl)); try simp only [Act.put, List.setIfInBounds_toArray, List.set_cons_zero, List.set_cons_succ])
                (refine wpSeq_mov rfl rfl ?_; intro o ho; simp only [List.getElem?_toArray, List.getElem?_cons_zero, List.getElem?_cons_succ, Option.some.injEq] at ho; subst ho; refine ⟨?_, Or.inl ⟨by rfl, fun W hSW => ?_⟩, ?_⟩; rotate_left; (focus (go_simp; first | done | with_reducible rfl)); try simp only [Act.put, List.setIfInBounds_toArray, List.set_cons_zero, List.set_cons_succ])
                (refine wpSeq_mov rfl rfl ?_; intro o ho; simp only [List.getElem?_toArray, List.getElem?_cons_zero, List.getElem?_cons_succ, Option.some.injEq] at ho; subst ho; refine ⟨?_, Or.inl ⟨by rfl, fun W hSW => ?_⟩, ?_⟩; rotate_left; (focus (go_simp; first | done | with_reducible rfl)); try simp only [Act.put, List.setIfInBounds_toArray, List.set_cons_zero, List.set_cons_succ])
                (refine wpSeq_mov rfl rfl ?_; intro o ho; simp only [List.getElem?_toArray, List.getElem?_cons_zero, List.getElem?_cons_succ, Option.some.injEq] at ho; subst ho; refine ⟨?_, Or.inl ⟨by rfl, fun W hSW => ?_⟩, ?_⟩; rotate_left; (focus (go_simp; first | done | with_reducible rfl)); try simp only [Act.put, List.setIfInBounds_toArray, List.set_cons_zero, List.set_cons_succ])
                (refine wpSeq_mov rfl rfl ?_; intro o ho; simp only [List.getElem?_toArray, List.getElem?_cons_zero, List.getElem?_cons_succ, Option.some.injEq] at ho; subst ho; refine ⟨?_, Or.inl ⟨by rfl, fun W hSW => ?_⟩, ?_⟩; rotate_left; (focus (go_simp; first | done | with_reducible rfl)); try simp only [Act.put, List.setIfInBounds_toArray, List.set_cons_zero, List.set_cons_succ])
                (refine wpSeq_mov rfl rfl ?_; intro o ho; simp only [List.getElem?_toArray, List.getElem?_cons_zero, List.getElem?_cons_succ, Option.some.injEq] at ho; subst ho; refine ⟨?_, Or.inl ⟨by rfl, fun W hSW => ?_⟩, ?_⟩; rotate_left; (focus (go_simp; first | done | with_reducible rfl)); try simp only [Act.put, List.setIfInBounds_toArray, List.set_cons_zero, List.set_cons_succ])
                (refine wpSeq_mov rfl rfl ?_; intro o ho; simp only [List.getElem?_toArray, List.getElem?_cons_zero, List.getElem?_cons_succ, Option.some.injEq] at ho; subst ho; refine ⟨?_, Or.inl ⟨by rfl, fun W hSW => ?_⟩, ?_⟩; rotate_left; (focus (go_simp; first | done | with_reducible rfl)); try simp only [Act.put, List.setIfInBounds_toArray, List.set_cons_zero, List.set_cons_succ])
                (refine wpSeq_mov rfl rfl ?_; intro o ho; simp only [List.getElem?_toArray, List.getElem?_cons_zero, List.getElem?_cons_succ, Option.some.injEq] at ho; subst ho; refine ⟨?_, Or.inl ⟨by rfl, fun W hSW => ?_⟩, ?_⟩; rotate_left; (focus (go_simp; first | done | with_reducible rfl)); try simp only [Act.put, List.setIfInBounds_toArray, List.set_cons_zero, List.set_cons_succ])
                (refine wpSeq_mov rfl rfl ?_; intro o ho; simp only [List.getElem?_toArray, List.getElem?_cons_zero, List.getElem?_cons_succ, Option.some.injEq] at ho; subst ho; refine ⟨?_, Or.inl ⟨by rfl, fun W hSW => ?_⟩, ?_⟩; rotate_left; (focus (go_simp; first | done | with_reducible rfl)); try simp only [Act.put, List.setIfInBounds_toArray, List.set_cons_zero, List.set_cons_succ])
                (refine wpSeq_mov rfl rfl ?_; intro o ho; simp only [List.getElem?_toArray, List.getElem?_cons_zero, List.getElem?_cons_succ, Option.some.injEq] at ho; subst ho; refine ⟨?_, Or.inl ⟨by rfl, fun W hSW => ?_⟩, ?_⟩; rotate_left; (focus (go_simp; first | done | with_reducible rfl)); try simp only [Act.put, List.setIfInBounds_toArray, List.set_cons_zero, List.set_cons_succ])
                (refine wpSeq_mov rfl rfl ?_; intro o ho; simp only [List.getElem?_toArray, List.getElem?_cons_zero, List.getElem?_cons_succ, Option.some.injEq] at ho; subst ho; refine ⟨?_, Or.inl ⟨by rfl, fun W hSW => ?_⟩, ?_⟩; rotate_left; (focus (go_simp; first | done | with_reducible rfl)); try simp only [Act.put, List.setIfInBounds_toArray, List.set_cons_zero, List.set_cons_succ])
                (refine wpSeq_mov rfl rfl ?_; intro o ho; simp only [List.getElem?_toArray, List.getElem?_cons_zero, List.getElem?_cons_succ, Option.some.injEq] at ho; subst ho; refine ⟨?_, Or.inl ⟨by rfl, fun W hSW => ?_⟩, ?_⟩; rotate_left; (focus (go_simp; first | done | with_reducible rfl)); try simp only [Act.put, List.setIfInBounds_toArray, List.set_cons_zero, List.set_cons_succ])
                (refine wpSeq_mov rfl rfl ?_; intro o ho; simp only [List.getElem?_toArray, List.getElem?_cons_zero, List.getElem?_cons_succ, Option.some.injEq] at ho; subst ho; refine ⟨?_, Or.inl ⟨by rfl, fun W hSW => ?_⟩, ?_⟩; rotate_left; (focus (go_simp; first | done | with_reducible rfl)); try simp only [Act.put, List.setIfInBounds_toArray, List.set_cons_zero, List.set_cons_succ])
                (refine wpSeq_fix rfl rfl ?_; intro o ho; simp only [List.getElem?_toArray, List.getElem?_cons_zero, List.getElem?_cons_succ, Option.some.injEq] at ho; subst ho; intro K hK)
                go_simp
                refine (HT1.out _ (Vals.of_own HO.out.p.drew)).mono ?_
                rintro e w' ⟨rfl, rfl⟩
                (refine hK.out _ _ (fun _ => hSS) ?_; clear hK K; try simp only [Act.put, List.setIfInBounds_toArray, List.set_cons_zero, List.set_cons_succ])
                (refine wpSeq_fix rfl rfl ?_; intro o ho; simp only [List.getElem?_toArray, List.getElem?_cons_zero, List.getElem?_cons_succ, Option.some.injEq] at ho; subst ho; intro K hK)
                go_simp
                refine (HT2.out _ (Vals.of_own HO.out.p.drew)).mono ?_
                rintro e w' ⟨rfl, rfl⟩
                (refine hK.out _ _ (fun _ => hSS) ?_; clear hK K; try simp only [Act.put, List.setIfInBounds_toArray, List.set_cons_zero, List.set_cons_succ])
                (refine wpSeq_mov rfl rfl ?_; intro o ho; simp only [List.getElem?_toArray, List.getElem?_cons_zero, List.getElem?_cons_succ, Option.some.injEq] at ho; subst ho; refine ⟨?_, Or.inl ⟨by rfl, fun W hSW => ?_⟩, ?_⟩; rotate_left; (focus (go_simp; first | done | with_reducible rfl)); try simp only [Act.put, List.setIfInBounds_toArray, List.set_cons_zero, List.set_cons_succ])
                (refine wpSeq_mov rfl rfl ?_; intro o ho; simp only [List.getElem?_toArray, List.getElem?_cons_zero, List.getElem?_cons_succ, Option.some.injEq] at ho; subst ho; refine ⟨?_, Or.inl ⟨by rfl, fun W hSW => ?_⟩, ?_⟩; rotate_left; (focus (go_simp; first | done | with_reducible rfl)); try simp only [Act.put, List.setIfInBounds_toArray, List.set_cons_zero, List.set_cons_succ])
                refine wpSeq_done ?_
                have hy1 := HI1.out
                have hy2 := HI2.out
                clear HI1 HI2
                rcases hy1 with rfl | rfl | rfl <;> rcases hy2 with rfl | rfl | rfl
                · go_wp2_with (first | (at_builtin; refine wpList_append_vals _ rfl (.tmp 83) (.tmp 84) _ rfl (w.heap.size + 1) 3 i0 _ 1 8 Try.underlying26 hi0 hz0 hz1 hz2 rfl (by omega) (.slice A' (vals3At g xs k).length c') (vals3At g xs k).length (i64s (vals3At g xs k)) rfl (HO.out.p.drew.alloc _) _ _ 1 1 [.int .i64 0] rfl rfl (vals_new wr.drew [.int .i64 0] 3) (i64s_one [0]) (by rw [HVL.out]; unfold maxLen; omega) (by rw [HVL.out]; omega) (by simp; omega) ?_; intro v5 w5 hown5 hg5; have HO5 := Lib.hid hown5; have HB5 := Lib.hid (((HB.out.step (stepD1 wr)).alloc (.cells #[.int .i64 0] 3)).grown hg5 (own_block HO.out.p)); clear hown5 hg5))
                  go_roundw
                  case rel =>
                    obtain ⟨A6, c6, hv6, _⟩ := own_form HO5.out
                    subst hv6
                    have hl6 : (vals3At g xs (k + 1)).length = (vals3At g xs k).length + 1 := by rw [HS.out]; simp
                    refine ⟨k + 1, A6, c6, by omega, by rw [hl6], by go_num, ⟨?_⟩, HB5.out⟩
                    rw [hl6, HS.out, i64s_snoc]
                    exact HO5.out
                  case measure => simp [intOf]; omega
                · go_wp2_with (first | (at_builtin; refine wpList_append_vals _ rfl (.tmp 83) (.tmp 84) _ rfl (w.heap.size + 1) 3 i0 _ 1 8 Try.underlying26 hi0 hz0 hz1 hz2 rfl (by omega) (.slice A' (vals3At g xs k).length c') (vals3At g xs k).length (i64s (vals3At g xs k)) rfl (HO.out.p.drew.alloc _) _ _ 1 1 [.int .i64 0] rfl rfl (vals_new wr.drew [.int .i64 0] 3) (i64s_one [0]) (by rw [HVL.out]; unfold maxLen; omega) (by rw [HVL.out]; omega) (by simp; omega) ?_; intro v5 w5 hown5 hg5; have HO5 := Lib.hid hown5; have HB5 := Lib.hid (((HB.out.step (stepD1 wr)).alloc (.cells #[.int .i64 0] 3)).grown hg5 (own_block HO.out.p)); clear hown5 hg5))
                  go_roundw
                  case rel =>
                    obtain ⟨A6, c6, hv6, _⟩ := own_form HO5.out
                    subst hv6
                    have hl6 : (vals3At g xs (k + 1)).length = (vals3At g xs k).length + 1 := by rw [HS.out]; simp
                    refine ⟨k + 1, A6, c6, by omega, by rw [hl6], by go_num, ⟨?_⟩, HB5.out⟩
                    rw [hl6, HS.out, i64s_snoc]
                    exact HO5.out
                  case measure => simp [intOf]; omega
                · go_wp2_with (first | (at_builtin; refine wpList_append_vals _ rfl (.tmp 83) (.tmp 84) _ rfl (w.heap.size + 1) 3 i0 _ 1 8 Try.underlying26 hi0 hz0 hz1 hz2 rfl (by omega) (.slice A' (vals3At g xs k).length c') (vals3At g xs k).length (i64s (vals3At g xs k)) rfl (HO.out.p.drew.alloc _) _ _ 1 1 [.int .i64 0] rfl rfl (vals_new wr.drew [.int .i64 0] 3) (i64s_one [0]) (by rw [HVL.out]; unfold maxLen; omega) (by rw [HVL.out]; omega) (by simp; omega) ?_; intro v5 w5 hown5 hg5; have HO5 := Lib.hid hown5; have HB5 := Lib.hid (((HB.out.step (stepD1 wr)).alloc (.cells #[.int .i64 0] 3)).grown hg5 (own_block HO.out.p)); clear hown5 hg5))
                  go_roundw
                  case rel =>
                    obtain ⟨A6, c6, hv6, _⟩ := own_form HO5.out
                    subst hv6
                    have hl6 : (vals3At g xs (k + 1)).length = (vals3At g xs k).length + 1 := by rw [HS.out]; simp
                    refine ⟨k + 1, A6, c6, by omega, by rw [hl6], by go_num, ⟨?_⟩, HB5.out⟩
                    rw [hl6, HS.out, i64s_snoc]
                    exact HO5.out
                  case measure => simp [intOf]; omega
                · go_wp2_with (first | (at_builtin; refine wpList_append_vals _ rfl (.tmp 83) (.tmp 84) _ rfl (w.heap.size + 1) 3 i0 _ 1 8 Try.underlying26 hi0 hz0 hz1 hz2 rfl (by omega) (.slice A' (vals3At g xs k).length c') (vals3At g xs k).length (i64s (vals3At g xs k)) rfl (HO.out.p.drew.alloc _) _ _ 1 1 [.int .i64 0] rfl rfl (vals_new wr.drew [.int .i64 0] 3) (i64s_one [0]) (by rw [HVL.out]; unfold maxLen; omega) (by rw [HVL.out]; omega) (by simp; omega) ?_; intro v5 w5 hown5 hg5; have HO5 := Lib.hid hown5; have HB5 := Lib.hid (((HB.out.step (stepD1 wr)).alloc (.cells #[.int .i64 0] 3)).grown hg5 (own_block HO.out.p)); clear hown5 hg5))
                  go_roundw
                  case rel =>
                    obtain ⟨A6, c6, hv6, _⟩ := own_form HO5.out
                    subst hv6
                    have hl6 : (vals3At g xs (k + 1)).length = (vals3At g xs k).length + 1 := by rw [HS.out]; simp
                    refine ⟨k + 1, A6, c6, by omega, by rw [hl6], by go_num, ⟨?_⟩, HB5.out⟩
                    rw [hl6, HS.out, i64s_snoc]
                    exact HO5.out
                  case measure => simp [intOf]; omega
                · go_wp2_with (first | (at_builtin; refine wpList_append_vals _ rfl (.tmp 93) (.tmp 94) _ rfl (w.heap.size + 1) 3 i0 _ 1 8 Try.underlying26 hi0 hz0 hz1 hz2 rfl (by omega) (.slice A' (vals3At g xs k).length c') (vals3At g xs k).length (i64s (vals3At g xs k)) rfl (HO.out.p.drew.alloc _) _ _ 1 1 [.int .i64 1] rfl rfl (vals_new wr.drew [.int .i64 1] 3) (i64s_one [1]) (by rw [HVL.out]; unfold maxLen; omega) (by rw [HVL.out]; omega) (by simp; omega) ?_; intro v5 w5 hown5 hg5; have HO5 := Lib.hid hown5; have HB5 := Lib.hid (((HB.out.step (stepD1 wr)).alloc (.cells #[.int .i64 1] 3)).grown hg5 (own_block HO.out.p)); clear hown5 hg5))
                  go_roundw
                  case rel =>
                    obtain ⟨A6, c6, hv6, _⟩ := own_form HO5.out
                    subst hv6
                    have hl6 : (vals3At g xs (k + 1)).length = (vals3At g xs k).length + 1 := by rw [HS.out]; simp
                    refine ⟨k + 1, A6, c6, by omega, by rw [hl6], by go_num, ⟨?_⟩, HB5.out⟩
                    rw [hl6, HS.out, i64s_snoc]
                    exact HO5.out
                  case measure => simp [intOf]; omega
                · go_wp2_with (first | (at_builtin; refine wpList_append_vals _ rfl (.tmp 73) (.tmp 74) _ rfl (w.heap.size + 1) 3 i0 _ 1 8 Try.underlying26 hi0 hz0 hz1 hz2 rfl (by omega) (.slice A' (vals3At g xs k).length c') (vals3At g xs k).length (i64s (vals3At g xs k)) rfl (HO.out.p.drew.alloc _) _ _ 1 1 [.int .i64 2] rfl rfl (vals_new wr.drew [.int .i64 2] 3) (i64s_one [2]) (by rw [HVL.out]; unfold maxLen; omega) (by rw [HVL.out]; omega) (by simp; omega) ?_; intro v5 w5 hown5 hg5; have HO5 := Lib.hid hown5; have HB5 := Lib.hid (((HB.out.step (stepD1 wr)).alloc (.cells #[.int .i64 2] 3)).grown hg5 (own_block HO.out.p)); clear hown5 hg5))
                  go_roundw
                  case rel =>
                    obtain ⟨A6, c6, hv6, _⟩ := own_form HO5.out
                    subst hv6
                    have hl6 : (vals3At g xs (k + 1)).length = (vals3At g xs k).length + 1 := by rw [HS.out]; simp
                    refine ⟨k + 1, A6, c6, by omega, by rw [hl6], by go_num, ⟨?_⟩, HB5.out⟩
                    rw [hl6, HS.out, i64s_snoc]
                    exact HO5.out
                  case measure => simp [intOf]; omega
                · go_wp2_with (first | (at_builtin; refine wpList_append_vals _ rfl (.tmp 83) (.tmp 84) _ rfl (w.heap.size + 1) 3 i0 _ 1 8 Try.underlying26 hi0 hz0 hz1 hz2 rfl (by omega) (.slice A' (vals3At g xs k).length c') (vals3At g xs k).length (i64s (vals3At g xs k)) rfl (HO.out.p.drew.alloc _) _ _ 1 1 [.int .i64 0] rfl rfl (vals_new wr.drew [.int .i64 0] 3) (i64s_one [0]) (by rw [HVL.out]; unfold maxLen; omega) (by rw [HVL.out]; omega) (by simp; omega) ?_; intro v5 w5 hown5 hg5; have HO5 := Lib.hid hown5; have HB5 := Lib.hid (((HB.out.step (stepD1 wr)).alloc (.cells #[.int .i64 0] 3)).grown hg5 (own_block HO.out.p)); clear hown5 hg5))
                  go_roundw
                  case rel =>
                    obtain ⟨A6, c6, hv6, _⟩ := own_form HO5.out
                    subst hv6
                    have hl6 : (vals3At g xs (k + 1)).length = (vals3At g xs k).length + 1 := by rw [HS.out]; simp
                    refine ⟨k + 1, A6, c6, by omega, by rw [hl6], by go_num, ⟨?_⟩, HB5.out⟩
                    rw [hl6, HS.out, i64s_snoc]
                    exact HO5.out
                  case measure => simp [intOf]; omega
                · go_wp2_with (first | (at_builtin; refine wpList_append_vals _ rfl (.tmp 73) (.tmp 74) _ rfl (w.heap.size + 1) 3 i0 _ 1 8 Try.underlying26 hi0 hz0 hz1 hz2 rfl (by omega) (.slice A' (vals3At g xs k).length c') (vals3At g xs k).length (i64s (vals3At g xs k)) rfl (HO.out.p.drew.alloc _) _ _ 1 1 [.int .i64 2] rfl rfl (vals_new wr.drew [.int .i64 2] 3) (i64s_one [2]) (by rw [HVL.out]; unfold maxLen; omega) (by rw [HVL.out]; omega) (by simp; omega) ?_; intro v5 w5 hown5 hg5; have HO5 := Lib.hid hown5; have HB5 := Lib.hid (((HB.out.step (stepD1 wr)).alloc (.cells #[.int .i64 2] 3)).grown hg5 (own_block HO.out.p)); clear hown5 hg5))
                  go_roundw
                  case rel =>
                    obtain ⟨A6, c6, hv6, _⟩ := own_form HO5.out
                    subst hv6
                    have hl6 : (vals3At g xs (k + 1)).length = (vals3At g xs k).length + 1 := by rw [HS.out]; simp
                    refine ⟨k + 1, A6, c6, by omega, by rw [hl6], by go_num, ⟨?_⟩, HB5.out⟩
                    rw [hl6, HS.out, i64s_snoc]
                    exact HO5.out
                  case measure => simp [intOf]; omega
                · go_wp2_with (first | (at_builtin; refine wpList_append_vals _ rfl (.tmp 73) (.tmp 74) _ rfl (w.heap.size + 1) 3 i0 _ 1 8 Try.underlying26 hi0 hz0 hz1 hz2 rfl (by omega) (.slice A' (vals3At g xs k).length c') (vals3At g xs k).length (i64s (vals3At g xs k)) rfl (HO.out.p.drew.alloc _) _ _ 1 1 [.int .i64 2] rfl rfl (vals_new wr.drew [.int .i64 2] 3) (i64s_one [2]) (by rw [HVL.out]; unfold maxLen; omega) (by rw [HVL.out]; omega) (by simp; omega) ?_; intro v5 w5 hown5 hg5; have HO5 := Lib.hid hown5; have HB5 := Lib.hid (((HB.out.step (stepD1 wr)).alloc (.cells #[.int .i64 2] 3)).grown hg5 (own_block HO.out.p)); clear hown5 hg5))
                  go_roundw
                  case rel =>
                    obtain ⟨A6, c6, hv6, _⟩ := own_form HO5.out
                    subst hv6
                    have hl6 : (vals3At g xs (k + 1)).length = (vals3At g xs k).length + 1 := by rw [HS.out]; simp
                    refine ⟨k + 1, A6, c6, by omega, by rw [hl6], by go_num, ⟨?_⟩, HB5.out⟩
                    rw [hl6, HS.out, i64s_snoc]
                    exact HO5.out
                  case measure => simp [intOf]; omega
              · have hlt2 : ¬ ((k : Int) < (g.as.length : Int)) := by omega
                obtain rfl : k = g.as.length := by omega
                go_wp2_with fail
                refine (rthree_any (vals3At g xs g.as.length) l A' c' _ HL.out.1 HL.out.2.1 (by omega) (Vals.of_own HO.out.p) H3.out).mono ?_
                rintro e w' ⟨rfl, rfl⟩
                go_wp2_with fail
                go_ret
                exact Ret.mk (by rw [HE.out]; first | done | rfl) HB.out.low
    · have HE : Hid (threeG g l xs = 2) := by show threeG g l xs = 2; unfold threeG; rw [hr, decide_eq_false hn]; rfl
      have hn' : ¬ ((xs.length : Int) = g.n) := hn
      clear hr
      go_wp2_with fail
      go_ret
      exact Ret.mk (by rw [HE.out]; first | done | rfl) HB.out.low
end Go.Proofs.Ytbdhkagcbncefaa

set_option linter.unusedVariables false
set_option linter.unusedSimpArgs false
namespace Go.Proofs.Ytbdhkagcbncefaa
open Go.RowKit Go.Maps

theorem eright_is (g : Gr) (x : Bool) (hx : rightB g = x) (A : Option Addr) (c : Nat) (w : World) (hg : GOk g) (hp : Prs w w.heap.size A g.as) :
    Calls Try.prog 42 #[.agg #[.int .i64 g.n, .slice A g.as.length c]] w (Ret w (.bool x)) := by
  rw [← hx]
  exact Right_any g A c w hg hp

/-- A row of truth values that is made with one element. -/
theorem make_bools (C : Int) (h1 : 1 ≤ C) (h2 : C ≤ 4001) : ∃ (n : Nat) (cs : Array Value), (n : Int) = C ∧ cs.size = n * 1 ∧ cs.toList.take (1 * 1) = [.bool false] ∧
    ∀ w : World, (Instr.makeSlice 25 (.int .i64 1) (.int .i64 C)).run Try.prog w = .ok (.slice (some ⟨w.heap.size, 0, none⟩) 1 n) (w.alloc (.cells cs 4)) := by
  obtain ⟨i, hi, hz, hs, hb⟩ := info_parts boolInfo
  refine ⟨C.toNat, madeCells #[.bool false] C.toNat, by omega, by rw [size_madeCells]; simp, ?_, fun w => ?_⟩
  · obtain ⟨m, hm⟩ : ∃ m, C.toNat = m + 1 := ⟨C.toNat - 1, by omega⟩
    rw [hm]
    have h0 : (madeCells #[Value.bool false] (m + 1)).toList[0]? = some (.bool false) := by simp [madeCells]
    match h : (madeCells #[Value.bool false] (m + 1)).toList, h0 with
    | a :: r, h0 => simp at h0; simp [h0]
  · have hr := run_make (P := Try.prog) w 25 4 i (.bool false) Try.underlying25 hi hz .i64 .i64 1 C (by omega) h1 (by rw [hb]; omega) (by omega)
    rw [hs, Nat.mul_one] at hr
    exact hr

set_option maxRecDepth 100000 in
set_option maxHeartbeats 2000000 in
theorem eall_any (g : Gr) (xs : List Bool) (A B : Option Addr) (c d : Nat) (w : World) (hg : GOk g) (hc : g.as.length ≤ c) (hp : Prs w w.heap.size A g.as) (hd : xs.length ≤ d) (hl : xs.length ≤ 140737488355328) (hx : Vals w w.heap.size B (bools xs)) :
    Calls Try.prog 29 #[.agg #[.int .i64 g.n, .slice A g.as.length c], .slice B xs.length d] w (RetB w (allG g xs)) := by
  have hnot := @not_run Try.prog
  have hmf : ∀ (fn : Fn) (first cap : Array Value) (w : World), (Instr.makeFunc fn first cap).run Try.prog w = .ok (.func fn first cap) w := fun _ _ _ _ => rfl
  have HX := Lib.hid hx
  have HP := Lib.hid hp
  have HOK := Lib.hid hg
  have H0 := Lib.hid (Boxed.begin_ (w := w) (g := g) (A := A) (c := c))
  clear hp hx hg
  go_enter Try.func29, Try.ntmps29
  go_wp2_with fail
  refine (Right_any g A c _ HOK.out (H0.out.prs HP.out)).mono ?_
  rintro e w1 ⟨rfl, hb1⟩
  have H1 := Lib.hid (H0.out.step hb1)
  clear hb1
  have c0 := H1.out.c0
  have c1 := H1.out.c1
  cases hr : rightB g
  · have HE : Hid (allG g xs = []) := by show allG g xs = []; unfold allG; rw [hr]; rfl
    go_wp2_with fail
    go_ret
    rw [HE.out]
    exact ⟨none, 0, rfl, Nat.le_refl _, Vals.nil, H1.out.low⟩
  · by_cases hn : (xs.length : Int) = g.n
    · have HE : Hid (allG g xs = valsAt g xs g.as.length) := allG_is hr hn
      have HR := Lib.hid hr
      obtain ⟨g0, g1, g2, g3⟩ := (size_iff g).1 (right_size hr)
      have hl2 : xs.length ≤ 2000 := by omega
      obtain ⟨i0, hi0, hz0, hz1, hz2⟩ := info_parts boolInfo
      clear hr
      obtain ⟨C, cs, hC, hcs, htk, hmk⟩ := make_bools (g.n + 1 + (g.as.length : Int)) (by omega) (by omega)
      have HCS := Lib.hid hcs
      have HTK := Lib.hid htk
      clear hcs htk
      have hs := H1.out.size
      have HO1 : Hid ((w1.alloc (.cells cs 4)).ownsRow (w.heap.size + 1) 4 1 (.slice (some ⟨w1.heap.size, 0, none⟩) 1 C) 1 [.bool false]) :=
        ⟨by simp, .inr ⟨w1.heap.size, C, cs, rfl, hs, heap_alloc_new w1 _, by omega, by unfold maxLen; omega, HCS.out, by simpa using HTK.out⟩⟩
      have HO2 := Lib.hid (HO1.out.alloc (.cells #[.slice (some ⟨w1.heap.size, 0, none⟩) 1 C] 25))
      have H2 := Lib.hid ((H1.out.alloc (.cells cs 4)).alloc (.cells #[.slice (some ⟨w1.heap.size, 0, none⟩) 1 C] 25))
      have HK2 : Hid (Blk ((w1.alloc (.cells cs 4)).alloc (.cells #[.slice (some ⟨w1.heap.size, 0, none⟩) 1 C] 25)) (w1.heap.size + 1) 25 #[.slice (some ⟨w1.heap.size, 0, none⟩) 1 C]) := by
        have := Blk.new (w1.alloc (.cells cs 4)) 25 #[.slice (some ⟨w1.heap.size, 0, none⟩) 1 C]
        rw [World.size_alloc] at this
        exact this
      clear HO1 HCS HTK
      go_wp2_with (first
        | (at_builtin; refine wpList_append_vals _ rfl (.tmp 27) (.tmp 28) _ rfl (w.heap.size + 1) 4 i0 _ 1 1 Try.underlying25 hi0 hz0 hz1 hz2 rfl (by omega) (.slice (some ⟨w1.heap.size, 0, none⟩) 1 C) 1 [.bool false] rfl HO2.out _ B xs.length d (bools xs) rfl (by simp [bools]) (H2.out.vals HX.out) (bools_one xs) (by unfold maxLen; omega) (by omega) (by simp; omega) ?_; intro v1 w2 hown2 hg2; obtain ⟨A2, d2, rfl, hcap2⟩ := own_form hown2; have H3 := Lib.hid (H2.out.grown hg2 (own_block HO2.out)); have HO3 := Lib.hid hown2; have HK3 := Lib.hid (HK2.out.by_ hg2 (by intro k hk; simp [Value.ownBlock] at hk; omega)); clear hown2 hg2 c0 c1; have c0 := H3.out.c0; have c1 := H3.out.c1; have k0 := HK3.out.cell 0; have k1 := HK3.out.frozen 0))
      clear c0 c1 k0 k1 HO2 HK2 H2 H0 H1
      go_loopw [34] (fun i wr => ∃ (k : Nat) (A' : Option Addr) (c' : Nat), k ≤ g.as.length ∧ i = .int .i64 k ∧ OwnF wr (w.heap.size + 1) 4 1 (.slice A' (valsAt g xs k).length c') (valsAt g xs k).length (bools (valsAt g xs k)) ∧ BlkF wr (w1.heap.size + 1) 25 #[.slice A' (valsAt g xs k).length c'] ∧ Boxed w wr g A c) (fun i _ => g.as.length - (intOf i).toNat)
      case atStart =>
        have hl0 : (valsAt g xs 0).length = 1 + xs.length := by rw [valsAt_zero]; simp; omega
        refine ⟨0, A2, d2, Nat.zero_le _, rfl, ⟨?_⟩, ⟨?_⟩, ⟨?_⟩⟩
        · rw [hl0, valsAt_zero]
          exact own_set HO3.out HK3.out (by decide) 0 _
        · rw [hl0]
          exact HK3.out.set_ 0 _
        · exact H3.out.below.setCell (by simp; omega) _
      case round =>
        clear H3 HO3 HK3
        obtain ⟨k, A', c', hk, rfl, hown, hvar, hbx⟩ := hrel
        have HO := Lib.hid hown
        have HV := Lib.hid hvar
        have HB := Lib.hid hbx
        have k0 := HV.out.cell 0
        have k1 := HV.out.p.frozen 0
        have HVL : Hid ((valsAt g xs k).length = 1 + xs.length + k) := valsAt_length hk
        clear hown hbx hvar
        by_cases hlt : k < g.as.length
        · have hlt' : (k : Int) < (g.as.length : Int) := by omega
          obtain ⟨⟨p1, p2⟩, hpk⟩ : ∃ q, g.as[k]? = some q := ⟨_, List.getElem?_eq_getElem hlt⟩
          obtain ⟨b', o', rfl, _, q1, q2⟩ := (HB.out.prs HP.out) k _ hpk
          obtain ⟨r1, r2, r3, r4, r5, r6⟩ := gate_lits HR.out hpk
          simp only at r1 r2 r3 r4 r5 r6
          have HPK := Lib.hid hpk
          clear hpk
          have V1 : Hid (p1 / 2 < ((valsAt g xs k).length : Int)) := by show p1 / 2 < _; rw [HVL.out]; omega
          have V2 : Hid (p2 / 2 < ((valsAt g xs k).length : Int)) := by show p2 / 2 < _; rw [HVL.out]; omega
          have hs := HB.out.size
          go_wp2_with fail
          have HOa : Hid (World.ownsRow (wr.alloc (.cells #[.int .i64 p1, .int .i64 p2] 41)) (w.heap.size + 1) 4 1 (.slice A' (valsAt g xs k).length c') (valsAt g xs k).length (bools (valsAt g xs k))) := HO.out.p.alloc _
          have HVa := Lib.hid (HV.out.step (stepA wr (.cells #[.int .i64 p1, .int .i64 p2] 41)))
          have HBa := Lib.hid (HB.out.alloc (.cells #[.int .i64 p1, .int .i64 p2] 41))
          have HPa := Lib.hid (Blk.new wr 41 #[.int .i64 p1, .int .i64 p2])
          have hsa : wr.heap.size < (wr.alloc (.cells #[.int .i64 p1, .int .i64 p2] 41)).heap.size := by simp
          have hvb : w1.heap.size + 1 < wr.heap.size := HV.out.p.lt
          generalize wr.alloc (.cells #[.int .i64 p1, .int .i64 p2] 41) = wa at HOa HVa HBa HPa hsa ⊢
          generalize hpb : wr.heap.size = pb at HPa hsa hvb ⊢
          clear k0 k1 q1 q2 HO HB HV hpb
          have k0 := HVa.out.cell 0
          have k1 := HVa.out.p.frozen 0
          have q1 := HPa.out.cell 0
          have q2 := HPa.out.cell 1
          have HX1 : Hid (Calls Try.prog 62 #[.int .i64 p1, .pointer (some ⟨w1.heap.size + 1, 0, none⟩)] wa.drew (fun e w' => e = .returned (.bool (bitB (valsAt g xs k) p1)) ∧ w' = wa.drew)) :=
            ebit_still (valsAt g xs k) p1 A' c' _ wa.drew r1 V1.out (by omega) k0 (Vals.of_own HOa.out.drew)
          have HX2 : Hid (Calls Try.prog 62 #[.int .i64 p2, .pointer (some ⟨w1.heap.size + 1, 0, none⟩)] wa.drew (fun e w' => e = .returned (.bool (bitB (valsAt g xs k) p2)) ∧ w' = wa.drew)) :=
            ebit_still (valsAt g xs k) p2 A' c' _ wa.drew r3 V2.out (by omega) k0 (Vals.of_own HOa.out.drew)
          have HS : Hid (valsAt g xs (k + 1) = valsAt g xs k ++ [bitB (valsAt g xs k) p1 && bitB (valsAt g xs k) p2]) := valsAt_succ HPK.out
          generalize bitB (valsAt g xs k) p1 = y1 at HX1 HS
          generalize bitB (valsAt g xs k) p2 = y2 at HX2 HS
          have HNE : Hid (∀ n, (Value.slice A' (valsAt g xs k).length c').ownBlock = some n → n ≠ pb) := own_ne HOa.out HPa.out (by decide)
          have hne : w1.heap.size + 1 ≠ pb := by omega
          have hs2 := HBa.out.size
          have HSW : Hid (wa.drew.cell? ⟨w1.heap.size + 1, 0, none⟩ = some (.slice A' (valsAt g xs k).length c') ∧ wa.drew.cell? ⟨pb, 0, none⟩ = some (.int .i64 p1) ∧ wa.drew.cell? ⟨pb, 1, none⟩ = some (.int .i64 p2)) := ⟨k0, q1, q2⟩
          refine wp_region_noPanic ?_
          refine wp_region_seq (fun W => W.cell? ⟨w1.heap.size + 1, 0, none⟩ = some (.slice A' (valsAt g xs k).length c') ∧ W.cell? ⟨pb, 0, none⟩ = some (.int .i64 p1) ∧ W.cell? ⟨pb, 1, none⟩ = some (.int .i64 p2)) [0, 1, 2, 3, 4, 5, 6, 7, 8, 9, 10, 11, 12, 13] [0, 1, 2, 3, 5, 6, 7, 8, 10] [13] (by kernel_rfl) (by kernel_rfl) rfl (by kernel_rfl) (by kernel_rfl) (fun _ _ _ _ _ h => h) HSW.out (fun _ => ?_)
          cases y1
          ·
            (refine wpSeq_mov rfl rfl ?_; intro o ho; simp only [List.getElem?_toArray, List.getElem?_cons_zero, List.getElem?_cons_succ, Option.some.injEq] at ho; subst ho; refine ⟨?_, Or.inl ⟨by rfl, fun W hSW => ?_⟩, ?_⟩; rotate_left; (focus (go_simp; first | done | with_reducible rfl)); try simp only [Act.put, List.setIfInBounds_toArray, List.set_cons_zero, List.set_cons_succ])
            (refine wpSeq_mov rfl rfl ?_; intro o ho; simp only [List.getElem?_toArray, List.getElem?_cons_zero, List.getElem?_cons_succ, Option.some.injEq] at ho; subst ho; refine ⟨?_, Or.inl ⟨by rfl, fun W hSW => ?_⟩, ?_⟩; rotate_left; (focus (go_simp; first | done | with_reducible rfl)); try simp only [Act.put, List.setIfInBounds_toArray, List.set_cons_zero, List.set_cons_succ])
            (refine wpSeq_mov rfl rfl ?_; intro o ho; simp only [List.getElem?_toArray, List.getElem?_cons_zero, List.getElem?_cons_succ, Option.some.injEq] at ho; subst ho; refine ⟨?_, Or.inl ⟨by rfl, fun W hSW => ?_⟩, ?_⟩; rotate_left; (focus (go_simp; first | done | with_reducible rfl)); try simp only [Act.put, List.setIfInBounds_toArray, List.set_cons_zero, List.set_cons_succ])
            (refine wpSeq_mov rfl rfl ?_; intro o ho; simp only [List.getElem?_toArray, List.getElem?_cons_zero, List.getElem?_cons_succ, Option.some.injEq] at ho; subst ho; refine ⟨?_, Or.inl ⟨by rfl, fun W hSW => ?_⟩, ?_⟩; rotate_left; (focus (go_simp; first | done | with_reducible rfl)); try simp only [Act.put, List.setIfInBounds_toArray, List.set_cons_zero, List.set_cons_succ])
            (refine wpSeq_fix rfl rfl ?_; intro o ho; simp only [List.getElem?_toArray, List.getElem?_cons_zero, List.getElem?_cons_succ, Option.some.injEq] at ho; subst ho; intro K hK)
            go_simp
            refine HX1.out.mono ?_
            rintro e w' ⟨rfl, rfl⟩
            (refine hK.out _ _ (fun _ => HSW.out) ?_; clear hK K; try simp only [Act.put, List.setIfInBounds_toArray, List.set_cons_zero, List.set_cons_succ])
            (refine wpSeq_mov rfl rfl ?_; intro o ho; simp only [List.getElem?_toArray, List.getElem?_cons_zero, List.getElem?_cons_succ, Option.some.injEq] at ho; subst ho; refine ⟨?_, Or.inl ⟨by rfl, fun W hSW => ?_⟩, ?_⟩; rotate_left; (focus (go_simp; first | done | with_reducible rfl)); try simp only [Act.put, List.setIfInBounds_toArray, List.set_cons_zero, List.set_cons_succ])
            (refine wpSeq_mov rfl rfl ?_; intro o ho; simp only [List.getElem?_toArray, List.getElem?_cons_zero, List.getElem?_cons_succ, Option.some.injEq] at ho; subst ho; refine ⟨undef, Or.inr ⟨by rfl, rfl⟩, ?_⟩; try simp only [Act.put, List.setIfInBounds_toArray, List.set_cons_zero, List.set_cons_succ])
            (refine wpSeq_mov rfl rfl ?_; intro o ho; simp only [List.getElem?_toArray, List.getElem?_cons_zero, List.getElem?_cons_succ, Option.some.injEq] at ho; subst ho; refine ⟨undef, Or.inr ⟨by rfl, rfl⟩, ?_⟩; try simp only [Act.put, List.setIfInBounds_toArray, List.set_cons_zero, List.set_cons_succ])
            (refine wpSeq_mov rfl rfl ?_; intro o ho; simp only [List.getElem?_toArray, List.getElem?_cons_zero, List.getElem?_cons_succ, Option.some.injEq] at ho; subst ho; refine ⟨undef, Or.inr ⟨by rfl, rfl⟩, ?_⟩; try simp only [Act.put, List.setIfInBounds_toArray, List.set_cons_zero, List.set_cons_succ])
            (refine wpSeq_fix rfl rfl ?_; intro o ho; simp only [List.getElem?_toArray, List.getElem?_cons_zero, List.getElem?_cons_succ, Option.some.injEq] at ho; subst ho; intro K hK)
            go_simp
            (refine hK.out _ _ (fun _ => HSW.out) ?_; clear hK K; try simp only [Act.put, List.setIfInBounds_toArray, List.set_cons_zero, List.set_cons_succ])
            (refine wpSeq_mov rfl rfl ?_; intro o ho; simp only [List.getElem?_toArray, List.getElem?_cons_zero, List.getElem?_cons_succ, Option.some.injEq] at ho; subst ho; refine ⟨?_, Or.inl ⟨by rfl, fun W hSW => ?_⟩, ?_⟩; rotate_left; (focus (go_simp; first | done | with_reducible rfl)); try simp only [Act.put, List.setIfInBounds_toArray, List.set_cons_zero, List.set_cons_succ])
            (refine wpSeq_fix rfl rfl ?_; intro o ho; simp only [List.getElem?_toArray, List.getElem?_cons_zero, List.getElem?_cons_succ, Option.some.injEq] at ho; subst ho; intro K hK)
            go_simp
            (refine hK.out _ _ (fun _ => by go_keep) ?_; clear hK K; try simp only [Act.put, List.setIfInBounds_toArray, List.set_cons_zero, List.set_cons_succ])
            (refine wpSeq_fix rfl rfl ?_; intro o ho; simp only [List.getElem?_toArray, List.getElem?_cons_zero, List.getElem?_cons_succ, Option.some.injEq] at ho; subst ho; intro K hK)
            rw [if_pos (by rfl)]
            refine wp_append_own _ (.tmp 38) (.tmp 49) _ rfl (w.heap.size + 1) 4 i0 _ 1 1 Try.underlying25 hi0 hz0 hz1 hz2 rfl (by omega) (.slice A' (valsAt g xs k).length c') (valsAt g xs k).length (bools (valsAt g xs k)) rfl (HOa.out.drew.alloc _) _ 1 1 [.bool false] rfl rfl (cells_new _ [.bool false] 4) (bools_one [false]) (by rw [HVL.out]; unfold maxLen; omega) (by rw [HVL.out]; omega) (by simp; omega) ?_
            intro v5 w5 hown5 hg5 _
            obtain ⟨A6, c6, rfl, hcap6⟩ := own_form hown5
            have HO5 := Lib.hid hown5
            have HV5 := Lib.hid (((HVa.out.p.drew).alloc _).by_ hg5 (own_ne HOa.out HVa.out.p (by decide)))
            have HB5 := Lib.hid (((HBa.out.step (stepD1 _)).alloc _).grown hg5 (own_block HOa.out))
            have HP5 := Lib.hid (((HPa.out.drew).alloc _).by_ hg5 (own_ne HOa.out HPa.out (by decide)))
            clear hown5 hg5 k0 k1 q1 q2
            have k0 := HV5.out.cell 0
            have k1 := HV5.out.frozen 0
            (refine hK.out _ _ (fun _ => ⟨HV5.out.cell 0, HP5.out.cell 0, HP5.out.cell 1⟩) ?_; clear hK K; try simp only [Act.put, List.setIfInBounds_toArray, List.set_cons_zero, List.set_cons_succ])
            (refine wpSeq_fix rfl rfl ?_; intro o ho; simp only [List.getElem?_toArray, List.getElem?_cons_zero, List.getElem?_cons_succ, Option.some.injEq] at ho; subst ho; intro K hK)
            go_simp
            (refine hK.out _ _ (fun h => by simp at h) ?_; clear hK K; try simp only [Act.put, List.setIfInBounds_toArray, List.set_cons_zero, List.set_cons_succ])
            refine wpSeq_done ?_
            go_wp2_with fail
            go_roundw
            case rel =>
              have hl6 : (valsAt g xs (k + 1)).length = (valsAt g xs k).length + 1 := by rw [HS.out]; simp
              refine ⟨k + 1, A6, c6, by omega, by go_num, ⟨?_⟩, ⟨?_⟩, ⟨?_⟩⟩
              · rw [hl6, HS.out, bools_snoc]
                exact own_set HO5.out HV5.out (by decide) 0 _
              · rw [hl6]
                exact HV5.out.set_ 0 _
              · exact HB5.out.below.setCell (by simp; omega) _
            case measure => simp [intOf]; omega
          ·
            (refine wpSeq_mov rfl rfl ?_; intro o ho; simp only [List.getElem?_toArray, List.getElem?_cons_zero, List.getElem?_cons_succ, Option.some.injEq] at ho; subst ho; refine ⟨?_, Or.inl ⟨by rfl, fun W hSW => ?_⟩, ?_⟩; rotate_left; (focus (go_simp; first | done | with_reducible rfl)); try simp only [Act.put, List.setIfInBounds_toArray, List.set_cons_zero, List.set_cons_succ])
            (refine wpSeq_mov rfl rfl ?_; intro o ho; simp only [List.getElem?_toArray, List.getElem?_cons_zero, List.getElem?_cons_succ, Option.some.injEq] at ho; subst ho; refine ⟨?_, Or.inl ⟨by rfl, fun W hSW => ?_⟩, ?_⟩; rotate_left; (focus (go_simp; first | done | with_reducible rfl)); try simp only [Act.put, List.setIfInBounds_toArray, List.set_cons_zero, List.set_cons_succ])
            (refine wpSeq_mov rfl rfl ?_; intro o ho; simp only [List.getElem?_toArray, List.getElem?_cons_zero, List.getElem?_cons_succ, Option.some.injEq] at ho; subst ho; refine ⟨?_, Or.inl ⟨by rfl, fun W hSW => ?_⟩, ?_⟩; rotate_left; (focus (go_simp; first | done | with_reducible rfl)); try simp only [Act.put, List.setIfInBounds_toArray, List.set_cons_zero, List.set_cons_succ])
            (refine wpSeq_mov rfl rfl ?_; intro o ho; simp only [List.getElem?_toArray, List.getElem?_cons_zero, List.getElem?_cons_succ, Option.some.injEq] at ho; subst ho; refine ⟨?_, Or.inl ⟨by rfl, fun W hSW => ?_⟩, ?_⟩; rotate_left; (focus (go_simp; first | done | with_reducible rfl)); try simp only [Act.put, List.setIfInBounds_toArray, List.set_cons_zero, List.set_cons_succ])
            (refine wpSeq_fix rfl rfl ?_; intro o ho; simp only [List.getElem?_toArray, List.getElem?_cons_zero, List.getElem?_cons_succ, Option.some.injEq] at ho; subst ho; intro K hK)
            go_simp
            refine HX1.out.mono ?_
            rintro e w' ⟨rfl, rfl⟩
            (refine hK.out _ _ (fun _ => HSW.out) ?_; clear hK K; try simp only [Act.put, List.setIfInBounds_toArray, List.set_cons_zero, List.set_cons_succ])
            (refine wpSeq_mov rfl rfl ?_; intro o ho; simp only [List.getElem?_toArray, List.getElem?_cons_zero, List.getElem?_cons_succ, Option.some.injEq] at ho; subst ho; refine ⟨?_, Or.inl ⟨by rfl, fun W hSW => ?_⟩, ?_⟩; rotate_left; (focus (go_simp; first | done | with_reducible rfl)); try simp only [Act.put, List.setIfInBounds_toArray, List.set_cons_zero, List.set_cons_succ])
            (refine wpSeq_mov rfl rfl ?_; intro o ho; simp only [List.getElem?_toArray, List.getElem?_cons_zero, List.getElem?_cons_succ, Option.some.injEq] at ho; subst ho; refine ⟨?_, Or.inl ⟨by rfl, fun W hSW => ?_⟩, ?_⟩; rotate_left; (focus (go_simp; first | done | with_reducible rfl)); try simp only [Act.put, List.setIfInBounds_toArray, List.set_cons_zero, List.set_cons_succ])
            (refine wpSeq_mov rfl rfl ?_; intro o ho; simp only [List.getElem?_toArray, List.getElem?_cons_zero, List.getElem?_cons_succ, Option.some.injEq] at ho; subst ho; refine ⟨?_, Or.inl ⟨by rfl, fun W hSW => ?_⟩, ?_⟩; rotate_left; (focus (go_simp; first | done | with_reducible rfl)); try simp only [Act.put, List.setIfInBounds_toArray, List.set_cons_zero, List.set_cons_succ])
            (refine wpSeq_mov rfl rfl ?_; intro o ho; simp only [List.getElem?_toArray, List.getElem?_cons_zero, List.getElem?_cons_succ, Option.some.injEq] at ho; subst ho; refine ⟨?_, Or.inl ⟨by rfl, fun W hSW => ?_⟩, ?_⟩; rotate_left; (focus (go_simp; first | done | with_reducible rfl)); try simp only [Act.put, List.setIfInBounds_toArray, List.set_cons_zero, List.set_cons_succ])
            (refine wpSeq_fix rfl rfl ?_; intro o ho; simp only [List.getElem?_toArray, List.getElem?_cons_zero, List.getElem?_cons_succ, Option.some.injEq] at ho; subst ho; intro K hK)
            go_simp
            refine HX2.out.mono ?_
            rintro e w' ⟨rfl, rfl⟩
            (refine hK.out _ _ (fun _ => HSW.out) ?_; clear hK K; try simp only [Act.put, List.setIfInBounds_toArray, List.set_cons_zero, List.set_cons_succ])
            (refine wpSeq_mov rfl rfl ?_; intro o ho; simp only [List.getElem?_toArray, List.getElem?_cons_zero, List.getElem?_cons_succ, Option.some.injEq] at ho; subst ho; refine ⟨?_, Or.inl ⟨by rfl, fun W hSW => ?_⟩, ?_⟩; rotate_left; (focus (go_simp; first | done | with_reducible rfl)); try simp only [Act.put, List.setIfInBounds_toArray, List.set_cons_zero, List.set_cons_succ])
            (refine wpSeq_fix rfl rfl ?_; intro o ho; simp only [List.getElem?_toArray, List.getElem?_cons_zero, List.getElem?_cons_succ, Option.some.injEq] at ho; subst ho; intro K hK)
            go_simp
            (refine hK.out _ _ (fun _ => by go_keep) ?_; clear hK K; try simp only [Act.put, List.setIfInBounds_toArray, List.set_cons_zero, List.set_cons_succ])
            (refine wpSeq_fix rfl rfl ?_; intro o ho; simp only [List.getElem?_toArray, List.getElem?_cons_zero, List.getElem?_cons_succ, Option.some.injEq] at ho; subst ho; intro K hK)
            rw [if_pos (by rfl)]
            refine wp_append_own _ (.tmp 38) (.tmp 49) _ rfl (w.heap.size + 1) 4 i0 _ 1 1 Try.underlying25 hi0 hz0 hz1 hz2 rfl (by omega) (.slice A' (valsAt g xs k).length c') (valsAt g xs k).length (bools (valsAt g xs k)) rfl (HOa.out.drew.alloc _) _ 1 1 [.bool y2] rfl rfl (cells_new _ [.bool y2] 4) (bools_one [y2]) (by rw [HVL.out]; unfold maxLen; omega) (by rw [HVL.out]; omega) (by simp; omega) ?_
            intro v5 w5 hown5 hg5 _
            obtain ⟨A6, c6, rfl, hcap6⟩ := own_form hown5
            have HO5 := Lib.hid hown5
            have HV5 := Lib.hid (((HVa.out.p.drew).alloc _).by_ hg5 (own_ne HOa.out HVa.out.p (by decide)))
            have HB5 := Lib.hid (((HBa.out.step (stepD1 _)).alloc _).grown hg5 (own_block HOa.out))
            have HP5 := Lib.hid (((HPa.out.drew).alloc _).by_ hg5 (own_ne HOa.out HPa.out (by decide)))
            clear hown5 hg5 k0 k1 q1 q2
            have k0 := HV5.out.cell 0
            have k1 := HV5.out.frozen 0
            (refine hK.out _ _ (fun _ => ⟨HV5.out.cell 0, HP5.out.cell 0, HP5.out.cell 1⟩) ?_; clear hK K; try simp only [Act.put, List.setIfInBounds_toArray, List.set_cons_zero, List.set_cons_succ])
            (refine wpSeq_fix rfl rfl ?_; intro o ho; simp only [List.getElem?_toArray, List.getElem?_cons_zero, List.getElem?_cons_succ, Option.some.injEq] at ho; subst ho; intro K hK)
            go_simp
            (refine hK.out _ _ (fun h => by simp at h) ?_; clear hK K; try simp only [Act.put, List.setIfInBounds_toArray, List.set_cons_zero, List.set_cons_succ])
            refine wpSeq_done ?_
            go_wp2_with fail
            go_roundw
            case rel =>
              have hl6 : (valsAt g xs (k + 1)).length = (valsAt g xs k).length + 1 := by rw [HS.out]; simp
              refine ⟨k + 1, A6, c6, by omega, by go_num, ⟨?_⟩, ⟨?_⟩, ⟨?_⟩⟩
              · rw [hl6, HS.out, bools_snoc]
                exact own_set HO5.out HV5.out (by decide) 0 _
              · rw [hl6]
                exact HV5.out.set_ 0 _
              · exact HB5.out.below.setCell (by simp; omega) _
            case measure => simp [intOf]; omega
        · have hlt' : ¬ ((k : Int) < (g.as.length : Int)) := by omega
          obtain rfl : k = g.as.length := by omega
          go_wp2_with fail
          go_ret
          rw [HE.out]
          exact ⟨A', c', rfl, own_cap HO.out.p, Vals.of_own HO.out.p, HB.out.low⟩
    · have HE : Hid (allG g xs = []) := by show allG g xs = []; unfold allG; rw [hr, decide_eq_false hn]; rfl
      have hn' : ¬ ((xs.length : Int) = g.n) := hn
      clear hr
      go_wp2_with fail
      go_ret
      rw [HE.out]
      exact ⟨none, 0, rfl, Nat.le_refl _, Vals.nil, H1.out.low⟩
end Go.Proofs.Ytbdhkagcbncefaa

set_option linter.unusedVariables false
set_option linter.unusedSimpArgs false
namespace Go.Proofs.Ytbdhkagcbncefaa
open Go.RowKit Go.Maps

/-- A row of numbers that is made with one element. -/
theorem make_ints (C : Int) (h1 : 1 ≤ C) (h2 : C ≤ 4001) : ∃ (n : Nat) (cs : Array Value), (n : Int) = C ∧ cs.size = n * 1 ∧ cs.toList.take (1 * 1) = [.int .i64 0] ∧
    ∀ w : World, (Instr.makeSlice 26 (.int .i64 1) (.int .i64 C)).run Try.prog w = .ok (.slice (some ⟨w.heap.size, 0, none⟩) 1 n) (w.alloc (.cells cs 3)) := by
  obtain ⟨i, hi, hz, hs, hb⟩ := info_parts intInfo
  refine ⟨C.toNat, madeCells #[.int .i64 0] C.toNat, by omega, by rw [size_madeCells]; simp, ?_, fun w => ?_⟩
  · obtain ⟨m, hm⟩ : ∃ m, C.toNat = m + 1 := ⟨C.toNat - 1, by omega⟩
    rw [hm]
    have h0 : (madeCells #[Value.int .i64 0] (m + 1)).toList[0]? = some (.int .i64 0) := by simp [madeCells]
    match h : (madeCells #[Value.int .i64 0] (m + 1)).toList, h0 with
    | a :: r, h0 => simp at h0; simp [h0]
  · have hr := run_make (P := Try.prog) w 26 3 i (.int .i64 0) Try.underlying26 hi hz .i64 .i64 1 C (by omega) h1 (by rw [hb]; omega) (by omega)
    rw [hs, Nat.mul_one] at hr
    exact hr

set_option maxRecDepth 100000 in
set_option maxHeartbeats 4000000 in
theorem eThree_any (g : Gr) (l : Int) (xs : List Int) (A B : Option Addr) (c d : Nat) (w : World) (hg : GOk g) (hc : g.as.length ≤ c) (hp : Prs w w.heap.size A g.as) (hl : xs.length ≤ 17592186044416) (hx : Vals w w.heap.size B (i64s xs)) (hll : l ≤ 9223372036854775807) :
    Calls Try.prog 33 #[.agg #[.int .i64 g.n, .slice A g.as.length c], .int .i64 l, .slice B xs.length d] w (Ret w (.int .i64 (threeG g l xs))) := by
  have hnot := @not_run Try.prog
  have hmf : ∀ (fn : Fn) (first cap : Array Value) (w : World), (Instr.makeFunc fn first cap).run Try.prog w = .ok (.func fn first cap) w := fun _ _ _ _ => rfl
  have HX := Lib.hid hx
  have HP := Lib.hid hp
  have HOK := Lib.hid hg
  have hgl : g.as.length ≤ 8796093022208 := hg.2.1
  have HB := Lib.hid (Boxed.begin_ (w := w) (g := g) (A := A) (c := c))
  clear hp hx hg
  go_enter Try.func33, Try.ntmps33
  go_wp2_with fail
  refine (Right_any g A c _ HOK.out (HB.out.prs HP.out)).mono ?_
  rintro e w1 ⟨rfl, hb⟩
  replace HB := Lib.hid (HB.out.step hb)
  clear hb
  have c0 := HB.out.c0
  have c1 := HB.out.c1
  cases hr : rightB g
  · have HE : Hid (threeG g l xs = 2) := by show threeG g l xs = 2; unfold threeG; rw [hr]; rfl
    go_wp2_with fail
    go_ret
    exact Ret.mk (by rw [HE.out]; first | done | rfl) HB.out.low
  · by_cases hn : (xs.length : Int) = g.n
    · have HR : Hid (rightB g = true) := hr
      clear hr
      have HN := Lib.hid hn
      go_wp2_with fail
      refine (lit_any g l A c _ hgl hll).mono ?_
      rintro e w2 ⟨rfl, hb⟩
      replace HB := Lib.hid (HB.out.step hb)
      clear hb
      replace c0 := HB.out.c0
      replace c1 := HB.out.c1
      cases hlt : litB g l
      · have HE : Hid (threeG g l xs = 2) := by show threeG g l xs = 2; unfold threeG; rw [hlt]; simp
        go_wp2_with fail
        go_ret
        exact Ret.mk (by rw [HE.out]; first | done | rfl) HB.out.low
      · have HE : Hid (threeG g l xs = bit3 (vals3At g xs g.as.length) l) := by show threeG g l xs = _; unfold threeG; rw [hlt, HR.out, decide_eq_true HN.out]; rfl
        have HL : Hid (0 ≤ l ∧ l / 2 < ((vals3At g xs g.as.length).length : Int) ∧ l ≤ 4001) := by
          rcases lit3_vals HN.out hlt with h | h
          · exact h
          · rw [HR.out] at h; cases h
        obtain ⟨g0, g1, g2, g3⟩ := (size_iff g).1 (right_size HR.out)
        have hl2 : xs.length ≤ 2000 := by omega
        obtain ⟨i0, hi0, hz0, hz1, hz2⟩ := info_parts intInfo
        clear hlt
        obtain ⟨C, cs, hC, hcs, htk, hmk⟩ := make_ints (g.n + 1 + (g.as.length : Int)) (by omega) (by omega)
        have hs := HB.out.size
        have HO1 : Hid ((w2.alloc (.cells cs 3)).ownsRow (w.heap.size + 1) 3 1 (.slice (some ⟨w2.heap.size, 0, none⟩) 1 C) 1 [.int .i64 0]) :=
          ⟨by simp, .inr ⟨w2.heap.size, C, cs, rfl, hs, heap_alloc_new w2 _, by omega, by unfold maxLen; omega, hcs, by simpa using htk⟩⟩
        have HO2 := Lib.hid (HO1.out.alloc (.cells #[.slice (some ⟨w2.heap.size, 0, none⟩) 1 C] 26))
        have HB2 := Lib.hid ((HB.out.alloc (.cells cs 3)).alloc (.cells #[.slice (some ⟨w2.heap.size, 0, none⟩) 1 C] 26))
        have HK2 : Hid (Blk ((w2.alloc (.cells cs 3)).alloc (.cells #[.slice (some ⟨w2.heap.size, 0, none⟩) 1 C] 26)) (w2.heap.size + 1) 26 #[.slice (some ⟨w2.heap.size, 0, none⟩) 1 C]) := by
          have := Blk.new (w2.alloc (.cells cs 3)) 26 #[.slice (some ⟨w2.heap.size, 0, none⟩) 1 C]
          rw [World.size_alloc] at this
          exact this
        clear HO1 hcs htk
        go_wp2_with fail
        clear HB c0 c1
        go_loopw [39] (fun i wr => ∃ (k : Nat) (A' : Option Addr) (c' : Nat), k ≤ xs.length ∧ i = .int .i64 k ∧ OwnF wr (w.heap.size + 1) 3 1 (.slice A' (toldAt xs k).length c') (toldAt xs k).length (i64s (toldAt xs k)) ∧ BlkF wr (w2.heap.size + 1) 26 #[.slice A' (toldAt xs k).length c'] ∧ Boxed w wr g A c) (fun i _ => xs.length - (intOf i).toNat)
        case atStart =>
          refine ⟨0, some ⟨w2.heap.size, 0, none⟩, C, Nat.zero_le _, rfl, ⟨?_⟩, ⟨?_⟩, HB2.out⟩
          · rw [toldAt_zero]
            exact HO2.out
          · rw [toldAt_zero]
            exact HK2.out
        case round =>
          clear HO2 HB2 HK2
          obtain ⟨k, A', c', hk, rfl, hown, hvar, hbx⟩ := hrel
          have HO := Lib.hid hown
          have HV := Lib.hid hvar
          have HB := Lib.hid hbx
          have k0 := HV.out.cell 0
          have k1 := HV.out.p.frozen 0
          have HVL : Hid ((toldAt xs k).length = k + 1) := toldAt_length hk
          clear hown hbx hvar
          by_cases hlt : k < xs.length
          · have hlt' : (k : Int) < (xs.length : Int) := by omega
            obtain ⟨x, hxk⟩ : ∃ q, xs[k]? = some q := ⟨_, List.getElem?_eq_getElem hlt⟩
            obtain ⟨b', o', rfl, _, q1⟩ := (HB.out.vals HX.out) k _ (i64s_at hxk)
            have HS : Hid (toldAt xs (k + 1) = toldAt xs k ++ [told3 x]) := toldAt_succ hxk
            have HT := Lib.hid (told_any x wr.drew)
            generalize told3 x = y at HS HT
            clear hxk
            have hs := HB.out.size
            go_wp2_with fail
            refine wp_region_noPanic ?_
            refine wp_region_seq (fun W => W.cell? ⟨w2.heap.size + 1, 0, none⟩ = some (.slice A' (toldAt xs k).length c')) [0, 1, 2, 3, 4, 5] [0, 1] [5] (by kernel_rfl) (by kernel_rfl) rfl (by kernel_rfl) (by kernel_rfl) (fun _ _ _ _ _ h => h) k0 (fun hSS => ?_)
            (refine wpSeq_mov rfl rfl ?_; intro o ho; simp only [List.getElem?_toArray, List.getElem?_cons_zero, List.getElem?_cons_succ, Option.some.injEq] at ho; subst ho; refine ⟨?_, Or.inl ⟨by rfl, fun W hSW => ?_⟩, ?_⟩; rotate_left; (focus (go_simp; first | done | with_reducible rfl)); try simp only [Act.put, List.setIfInBounds_toArray, List.set_cons_zero, List.set_cons_succ])
            (refine wpSeq_mov rfl rfl ?_; intro o ho; simp only [List.getElem?_toArray, List.getElem?_cons_zero, List.getElem?_cons_succ, Option.some.injEq] at ho; subst ho; refine ⟨?_, Or.inl ⟨by rfl, fun W hSW => ?_⟩, ?_⟩; rotate_left; (focus (go_simp; first | done | with_reducible rfl)); try simp only [Act.put, List.setIfInBounds_toArray, List.set_cons_zero, List.set_cons_succ])
            (refine wpSeq_fix rfl rfl ?_; intro o ho; simp only [List.getElem?_toArray, List.getElem?_cons_zero, List.getElem?_cons_succ, Option.some.injEq] at ho; subst ho; intro K hK)
            go_simp
            refine HT.out.mono ?_
            rintro e w' ⟨rfl, rfl⟩
            (refine hK.out _ _ (fun _ => hSS) ?_; clear hK K; try simp only [Act.put, List.setIfInBounds_toArray, List.set_cons_zero, List.set_cons_succ])
            (refine wpSeq_fix rfl rfl ?_; intro o ho; simp only [List.getElem?_toArray, List.getElem?_cons_zero, List.getElem?_cons_succ, Option.some.injEq] at ho; subst ho; intro K hK)
            go_simp
            (refine hK.out _ _ (fun _ => by go_keep) ?_; clear hK K; try simp only [Act.put, List.setIfInBounds_toArray, List.set_cons_zero, List.set_cons_succ])
            (refine wpSeq_fix rfl rfl ?_; intro o ho; simp only [List.getElem?_toArray, List.getElem?_cons_zero, List.getElem?_cons_succ, Option.some.injEq] at ho; subst ho; intro K hK)
            rw [if_pos (by rfl)]
            refine wp_append_own _ (.tmp 43) (.tmp 46) _ rfl (w.heap.size + 1) 3 i0 _ 1 8 Try.underlying26 hi0 hz0 hz1 hz2 rfl (by omega) (.slice A' (toldAt xs k).length c') (toldAt xs k).length (i64s (toldAt xs k)) rfl (HO.out.p.drew.alloc _) _ 1 1 [.int .i64 y] rfl rfl (cells_new _ [.int .i64 y] 3) (i64s_one [y]) (by rw [HVL.out]; unfold maxLen; omega) (by rw [HVL.out]; omega) (by simp; omega) ?_
            intro v5 w5 hown5 hg5 _
            obtain ⟨A6, c6, rfl, hcap6⟩ := own_form hown5
            have HO5 := Lib.hid hown5
            have HV5 := Lib.hid (((HV.out.p.drew).alloc _).by_ hg5 (own_ne HO.out.p HV.out.p (by decide)))
            have HB5 := Lib.hid (((HB.out.step (stepD1 _)).alloc _).grown hg5 (own_block HO.out.p))
            clear hown5 hg5 k0 k1 q1 hSS
            have k0 := HV5.out.cell 0
            have k1 := HV5.out.frozen 0
            (refine hK.out _ _ (fun _ => HV5.out.cell 0) ?_; clear hK K; try simp only [Act.put, List.setIfInBounds_toArray, List.set_cons_zero, List.set_cons_succ])
            (refine wpSeq_fix rfl rfl ?_; intro o ho; simp only [List.getElem?_toArray, List.getElem?_cons_zero, List.getElem?_cons_succ, Option.some.injEq] at ho; subst ho; intro K hK)
            go_simp
            (refine hK.out _ _ (fun h => by simp at h) ?_; clear hK K; try simp only [Act.put, List.setIfInBounds_toArray, List.set_cons_zero, List.set_cons_succ])
            refine wpSeq_done ?_
            go_wp2_with fail
            go_roundw
            case rel =>
              have hl6 : (toldAt xs (k + 1)).length = (toldAt xs k).length + 1 := by rw [HS.out]; simp
              refine ⟨k + 1, A6, c6, by omega, by go_num, ⟨?_⟩, ⟨?_⟩, ⟨?_⟩⟩
              · rw [hl6, HS.out, i64s_snoc]
                exact own_set HO5.out HV5.out (by decide) 0 _
              · rw [hl6]
                exact HV5.out.set_ 0 _
              · exact HB5.out.below.setCell (by simp; omega) _
            case measure => simp [intOf]; omega
          · have hlt' : ¬ ((k : Int) < (xs.length : Int)) := by omega
            obtain rfl : k = xs.length := by omega
            have HTA := Lib.hid (toldAt_all g xs)
            rw [HTA.out] at HO HVL HV k0
            clear hlt
            have c0 := HB.out.c0
            have c1 := HB.out.c1
            go_wp2_with fail
            clear c0 c1 k0 k1
            obtain ⟨wo, rfl⟩ : ∃ wo : World, wo = wr := ⟨_, rfl⟩
            go_loopw [53] (fun i wr => ∃ (k : Nat) (A' : Option Addr) (c' : Nat), k ≤ g.as.length ∧ i = .int .i64 k ∧ OwnF wr (w.heap.size + 1) 3 1 (.slice A' (vals3At g xs k).length c') (vals3At g xs k).length (i64s (vals3At g xs k)) ∧ BlkF wr (w2.heap.size + 1) 26 #[.slice A' (vals3At g xs k).length c'] ∧ Boxed w wr g A c) (fun i _ => g.as.length - (intOf i).toNat)
            case atStart => exact ⟨0, A', c', Nat.zero_le _, rfl, HO.out, HV.out, HB.out⟩
            case round =>
              clear HO HB HVL HV
              obtain ⟨k, A', c', hk, rfl, hown, hvar, hbx⟩ := hrel
              have HO := Lib.hid hown
              have HV := Lib.hid hvar
              have HB := Lib.hid hbx
              have k0 := HV.out.cell 0
              have k1 := HV.out.p.frozen 0
              have HVL : Hid ((vals3At g xs k).length = 1 + xs.length + k) := vals3At_length hk
              have H3 := Lib.hid (vals3At_is g xs k)
              clear hown hbx hvar
              by_cases hlt : k < g.as.length
              · have hlt2 : (k : Int) < (g.as.length : Int) := by omega
                obtain ⟨⟨p1, p2⟩, hpk⟩ : ∃ q, g.as[k]? = some q := ⟨_, List.getElem?_eq_getElem hlt⟩
                obtain ⟨b', o', rfl, _, q1, q2⟩ := (HB.out.prs HP.out) k _ hpk
                obtain ⟨r1, r2, r3, r4, r5, r6⟩ := gate_lits HR.out hpk
                simp only at r1 r2 r3 r4 r5 r6
                have HPK := Lib.hid hpk
                clear hpk
                have V1 : Hid (p1 / 2 < ((vals3At g xs k).length : Int)) := by show p1 / 2 < _; rw [HVL.out]; omega
                have V2 : Hid (p2 / 2 < ((vals3At g xs k).length : Int)) := by show p2 / 2 < _; rw [HVL.out]; omega
                have hs := HB.out.size
                go_wp2_with fail
                have HOa : Hid (World.ownsRow (wr.alloc (.cells #[.int .i64 p1, .int .i64 p2] 41)) (w.heap.size + 1) 3 1 (.slice A' (vals3At g xs k).length c') (vals3At g xs k).length (i64s (vals3At g xs k))) := HO.out.p.alloc _
                have HVa := Lib.hid (HV.out.step (stepA wr (.cells #[.int .i64 p1, .int .i64 p2] 41)))
                have HBa := Lib.hid (HB.out.alloc (.cells #[.int .i64 p1, .int .i64 p2] 41))
                have HPa := Lib.hid (Blk.new wr 41 #[.int .i64 p1, .int .i64 p2])
                have hsa : wr.heap.size < (wr.alloc (.cells #[.int .i64 p1, .int .i64 p2] 41)).heap.size := by simp
                have hvb : w2.heap.size + 1 < wr.heap.size := HV.out.p.lt
                generalize wr.alloc (.cells #[.int .i64 p1, .int .i64 p2] 41) = wa at HOa HVa HBa HPa hsa ⊢
                generalize hpb : wr.heap.size = pb at HPa hsa hvb ⊢
                clear k0 k1 q1 q2 HO HB HV hpb
                have k0 := HVa.out.cell 0
                have k1 := HVa.out.p.frozen 0
                have q1 := HPa.out.cell 0
                have q2 := HPa.out.cell 1
                have HX1 : Hid (Calls Try.prog 66 #[.int .i64 p1, .pointer (some ⟨w2.heap.size + 1, 0, none⟩)] wa.drew (fun e w' => e = .returned (.int .i64 (bit3 (vals3At g xs k) p1)) ∧ w' = wa.drew)) :=
                  ethree_still (vals3At g xs k) p1 A' c' _ wa.drew r1 V1.out (by omega) k0 (Vals.of_own HOa.out.drew) H3.out
                have HX2 : Hid (Calls Try.prog 66 #[.int .i64 p2, .pointer (some ⟨w2.heap.size + 1, 0, none⟩)] wa.drew (fun e w' => e = .returned (.int .i64 (bit3 (vals3At g xs k) p2)) ∧ w' = wa.drew)) :=
                  ethree_still (vals3At g xs k) p2 A' c' _ wa.drew r3 V2.out (by omega) k0 (Vals.of_own HOa.out.drew) H3.out
                have HG := Lib.hid (gate_any (bit3 (vals3At g xs k) p1) (bit3 (vals3At g xs k) p2) wa.drew (bit3_is H3.out p1) (bit3_is H3.out p2))
                have HS : Hid (vals3At g xs (k + 1) = vals3At g xs k ++ [gate3 (bit3 (vals3At g xs k) p1) (bit3 (vals3At g xs k) p2)]) := vals3At_succ HPK.out
                generalize gate3 (bit3 (vals3At g xs k) p1) (bit3 (vals3At g xs k) p2) = y at HS HG
                generalize bit3 (vals3At g xs k) p1 = y1 at HX1 HG
                generalize bit3 (vals3At g xs k) p2 = y2 at HX2 HG
                have hs2 := HBa.out.size
                have HSW : Hid (wa.drew.cell? ⟨w2.heap.size + 1, 0, none⟩ = some (.slice A' (vals3At g xs k).length c') ∧ wa.drew.cell? ⟨pb, 0, none⟩ = some (.int .i64 p1) ∧ wa.drew.cell? ⟨pb, 1, none⟩ = some (.int .i64 p2)) := ⟨k0, q1, q2⟩
                refine wp_region_noPanic ?_
                refine wp_region_seq (fun W => W.cell? ⟨w2.heap.size + 1, 0, none⟩ = some (.slice A' (vals3At g xs k).length c') ∧ W.cell? ⟨pb, 0, none⟩ = some (.int .i64 p1) ∧ W.cell? ⟨pb, 1, none⟩ = some (.int .i64 p2)) [0, 1, 2, 3, 5, 6, 7, 4, 8, 9, 10, 11, 12] [0, 1, 2, 3, 5, 6, 7] [12] (by kernel_rfl) (by kernel_rfl) rfl (by kernel_rfl) (by kernel_rfl) (fun _ _ _ _ _ h => h) HSW.out (fun _ => ?_)
                (refine wpSeq_mov rfl rfl ?_; intro o ho; simp only [List.getElem?_toArray, List.getElem?_cons_zero, List.getElem?_cons_succ, Option.some.injEq] at ho; subst ho; refine ⟨?_, Or.inl ⟨by rfl, fun W hSW => ?_⟩, ?_⟩; rotate_left; (focus (go_simp; first | done | with_reducible rfl)); try simp only [Act.put, List.setIfInBounds_toArray, List.set_cons_zero, List.set_cons_succ])
                (refine wpSeq_mov rfl rfl ?_; intro o ho; simp only [List.getElem?_toArray, List.getElem?_cons_zero, List.getElem?_cons_succ, Option.some.injEq] at ho; subst ho; refine ⟨?_, Or.inl ⟨by rfl, fun W hSW => ?_⟩, ?_⟩; rotate_left; (focus (go_simp; first | done | with_reducible rfl)); try simp only [Act.put, List.setIfInBounds_toArray, List.set_cons_zero, List.set_cons_succ])
                (refine wpSeq_mov rfl rfl ?_; intro o ho; simp only [List.getElem?_toArray, List.getElem?_cons_zero, List.getElem?_cons_succ, Option.some.injEq] at ho; subst ho; refine ⟨?_, Or.inl ⟨by rfl, fun W hSW => ?_⟩, ?_⟩; rotate_left; (focus (go_simp; first | done | with_reducible rfl)); try simp only [Act.put, List.setIfInBounds_toArray, List.set_cons_zero, List.set_cons_succ])
                (refine wpSeq_mov rfl rfl ?_; intro o ho; simp only [List.getElem?_toArray, List.getElem?_cons_zero, List.getElem?_cons_succ, Option.some.injEq] at ho; subst ho; refine ⟨?_, Or.inl ⟨by rfl, fun W hSW => ?_⟩, ?_⟩; rotate_left; (focus (go_simp; first | done | with_reducible rfl)); try simp only [Act.put, List.setIfInBounds_toArray, List.set_cons_zero, List.set_cons_succ])
                (refine wpSeq_mov rfl rfl ?_; intro o ho; simp only [List.getElem?_toArray, List.getElem?_cons_zero, List.getElem?_cons_succ, Option.some.injEq] at ho; subst ho; refine ⟨?_, Or.inl ⟨by rfl, fun W hSW => ?_⟩, ?_⟩; rotate_left; (focus (go_simp; first | done | with_reducible rfl)); try simp only [Act.put, List.setIfInBounds_toArray, List.set_cons_zero, List.set_cons_succ])
                (refine wpSeq_mov rfl rfl ?_; intro o ho; simp only [List.getElem?_toArray, List.getElem?_cons_zero, List.getElem?_cons_succ, Option.some.injEq] at ho; subst ho; refine ⟨?_, Or.inl ⟨by rfl, fun W hSW => ?_⟩, ?_⟩; rotate_left; (focus (go_simp; first | done | with_reducible rfl)); try simp only [Act.put, List.setIfInBounds_toArray, List.set_cons_zero, List.set_cons_succ])
                (refine wpSeq_mov rfl rfl ?_; intro o ho; simp only [List.getElem?_toArray, List.getElem?_cons_zero, List.getElem?_cons_succ, Option.some.injEq] at ho; subst ho; refine ⟨?_, Or.inl ⟨by rfl, fun W hSW => ?_⟩, ?_⟩; rotate_left; (focus (go_simp; first | done | with_reducible rfl)); try simp only [Act.put, List.setIfInBounds_toArray, List.set_cons_zero, List.set_cons_succ])
                (refine wpSeq_fix rfl rfl ?_; intro o ho; simp only [List.getElem?_toArray, List.getElem?_cons_zero, List.getElem?_cons_succ, Option.some.injEq] at ho; subst ho; intro K hK)
                go_simp
                refine HX1.out.mono ?_
                rintro e w' ⟨rfl, rfl⟩
                (refine hK.out _ _ (fun _ => HSW.out) ?_; clear hK K; try simp only [Act.put, List.setIfInBounds_toArray, List.set_cons_zero, List.set_cons_succ])
                (refine wpSeq_fix rfl rfl ?_; intro o ho; simp only [List.getElem?_toArray, List.getElem?_cons_zero, List.getElem?_cons_succ, Option.some.injEq] at ho; subst ho; intro K hK)
                go_simp
                refine HX2.out.mono ?_
                rintro e w' ⟨rfl, rfl⟩
                (refine hK.out _ _ (fun _ => HSW.out) ?_; clear hK K; try simp only [Act.put, List.setIfInBounds_toArray, List.set_cons_zero, List.set_cons_succ])
                (refine wpSeq_fix rfl rfl ?_; intro o ho; simp only [List.getElem?_toArray, List.getElem?_cons_zero, List.getElem?_cons_succ, Option.some.injEq] at ho; subst ho; intro K hK)
                go_simp
                refine HG.out.mono ?_
                rintro e w' ⟨rfl, rfl⟩
                (refine hK.out _ _ (fun _ => HSW.out) ?_; clear hK K; try simp only [Act.put, List.setIfInBounds_toArray, List.set_cons_zero, List.set_cons_succ])
                (refine wpSeq_fix rfl rfl ?_; intro o ho; simp only [List.getElem?_toArray, List.getElem?_cons_zero, List.getElem?_cons_succ, Option.some.injEq] at ho; subst ho; intro K hK)
                go_simp
                (refine hK.out _ _ (fun _ => by go_keep) ?_; clear hK K; try simp only [Act.put, List.setIfInBounds_toArray, List.set_cons_zero, List.set_cons_succ])
                (refine wpSeq_fix rfl rfl ?_; intro o ho; simp only [List.getElem?_toArray, List.getElem?_cons_zero, List.getElem?_cons_succ, Option.some.injEq] at ho; subst ho; intro K hK)
                rw [if_pos (by rfl)]
                refine wp_append_own _ (.tmp 57) (.tmp 67) _ rfl (w.heap.size + 1) 3 i0 _ 1 8 Try.underlying26 hi0 hz0 hz1 hz2 rfl (by omega) (.slice A' (vals3At g xs k).length c') (vals3At g xs k).length (i64s (vals3At g xs k)) rfl (HOa.out.drew.alloc _) _ 1 1 [.int .i64 y] rfl rfl (cells_new _ [.int .i64 y] 3) (i64s_one [y]) (by rw [HVL.out]; unfold maxLen; omega) (by rw [HVL.out]; omega) (by simp; omega) ?_
                intro v5 w5 hown5 hg5 _
                obtain ⟨A6, c6, rfl, hcap6⟩ := own_form hown5
                have HO5 := Lib.hid hown5
                have HV5 := Lib.hid (((HVa.out.p.drew).alloc _).by_ hg5 (own_ne HOa.out HVa.out.p (by decide)))
                have HP5 := Lib.hid (((HPa.out.drew).alloc _).by_ hg5 (own_ne HOa.out HPa.out (by decide)))
                have HB5 := Lib.hid (((HBa.out.step (stepD1 _)).alloc _).grown hg5 (own_block HOa.out))
                clear hown5 hg5 k0 k1 q1 q2
                have k0 := HV5.out.cell 0
                have k1 := HV5.out.frozen 0
                (refine hK.out _ _ (fun _ => ⟨HV5.out.cell 0, HP5.out.cell 0, HP5.out.cell 1⟩) ?_; clear hK K; try simp only [Act.put, List.setIfInBounds_toArray, List.set_cons_zero, List.set_cons_succ])
                (refine wpSeq_fix rfl rfl ?_; intro o ho; simp only [List.getElem?_toArray, List.getElem?_cons_zero, List.getElem?_cons_succ, Option.some.injEq] at ho; subst ho; intro K hK)
                go_simp
                (refine hK.out _ _ (fun h => by simp at h) ?_; clear hK K; try simp only [Act.put, List.setIfInBounds_toArray, List.set_cons_zero, List.set_cons_succ])
                refine wpSeq_done ?_
                go_wp2_with fail
                go_roundw
                case rel =>
                  have hl6 : (vals3At g xs (k + 1)).length = (vals3At g xs k).length + 1 := by rw [HS.out]; simp
                  refine ⟨k + 1, A6, c6, by omega, by go_num, ⟨?_⟩, ⟨?_⟩, ⟨?_⟩⟩
                  · rw [hl6, HS.out, i64s_snoc]
                    exact own_set HO5.out HV5.out (by decide) 0 _
                  · rw [hl6]
                    exact HV5.out.set_ 0 _
                  · exact HB5.out.below.setCell (by simp; omega) _
                case measure => simp [intOf]; omega
              · have hlt2 : ¬ ((k : Int) < (g.as.length : Int)) := by omega
                obtain rfl : k = g.as.length := by omega
                have HX1 := Lib.hid (ethree_still (vals3At g xs g.as.length) l A' c' _ wr HL.out.1 HL.out.2.1 (by omega) k0 (Vals.of_own HO.out.p) H3.out)
                go_wp2_with fail
                refine HX1.out.mono ?_
                rintro e w' ⟨rfl, rfl⟩
                go_wp2_with fail
                go_ret
                exact Ret.mk (by rw [HE.out]; first | done | rfl) HB.out.low
    · have HE : Hid (threeG g l xs = 2) := by show threeG g l xs = 2; unfold threeG; rw [hr, decide_eq_false hn]; rfl
      have hn' : ¬ ((xs.length : Int) = g.n) := hn
      clear hr
      go_wp2_with fail
      go_ret
      exact Ret.mk (by rw [HE.out]; first | done | rfl) HB.out.low
end Go.Proofs.Ytbdhkagcbncefaa

namespace Go.Proofs.Ytbdhkagcbncefaa
open Go.RowKit Go.Maps

set_option maxRecDepth 100000 in
set_option maxHeartbeats 2000000 in
theorem eEval_any (g : Gr) (l : Int) (xs : List Bool) (A B : Option Addr) (c d : Nat) (w : World) (hg : GOk g) (hc : g.as.length ≤ c) (hp : Prs w w.heap.size A g.as) (hd : xs.length ≤ d) (hl : xs.length ≤ 140737488355328) (hx : Vals w w.heap.size B (bools xs)) (hll : l ≤ 9223372036854775807) :
    Calls Try.prog 31 #[.agg #[.int .i64 g.n, .slice A g.as.length c], .int .i64 l, .slice B xs.length d] w (Ret w (.bool (evalG g l xs))) := by
  have HX := Lib.hid hx
  have HP := Lib.hid hp
  have HOK := Lib.hid hg
  have hgl : g.as.length ≤ 8796093022208 := hg.2.1
  have HB := Lib.hid (Boxed.begin_ (w := w) (g := g) (A := A) (c := c))
  clear hp hx hg
  go_enter Try.func31, Try.ntmps31
  go_wp2_with fail
  refine (eall_any g xs A B c d _ HOK.out hc (HB.out.prs HP.out) hd hl (HB.out.vals HX.out)).mono ?_
  rintro e w1 ⟨A1, c1, rfl, hc1, hv1, hb⟩
  replace HB := Lib.hid (HB.out.step hb)
  have HV : Hid (ValsF w1 A1 (bools (allG g xs))) := ⟨hv1⟩
  clear hb hv1
  have c0 := HB.out.c0
  have c1 := HB.out.c1
  by_cases hz : 0 < (allG g xs).length
  · have hz' : (0 : Int) < ((allG g xs).length : Int) := by omega
    go_wp2_with fail
    refine (lit_any g l A c _ hgl hll).mono ?_
    rintro e w2 ⟨rfl, hb⟩
    replace HB := Lib.hid (HB.out.step hb); replace HV := Lib.hid (HV.out.step hb)
    clear hb c0 c1
    cases hlt : litB g l
    · have HE : Hid (evalG g l xs = false) := by show evalG g l xs = false; unfold evalG; rw [hlt]; simp
      go_wp2_with fail
      go_ret
      exact Ret.mk (by rw [HE.out]; first | done | rfl) HB.out.low
    · have HE : Hid (evalG g l xs = bitB (allG g xs) l) := by show evalG g l xs = _; unfold evalG; rw [hlt, decide_eq_true hz]; simp
      obtain ⟨q0, q1, q2⟩ := lit_vals hz hlt
      obtain ⟨b, o, x, rfl, _, q, e⟩ := bools_at HV.out.p q0 q1
      have HQ := Lib.hid q1
      have HE2 := Lib.hid e
      have hd : 0 ≤ l / 2 := by omega
      clear q1 e
      go_wp2_with fail
      go_ret
      refine Ret.mk ?_ HB.out.low
      show Value.bool (!(x == (bits .and .i64 l 1 == 1))) = _
      rw [HE.out, HE2.out, and_one l q0 hll, odd_beq]
      rfl
  · have HE : Hid (evalG g l xs = false) := by show evalG g l xs = false; unfold evalG; rw [decide_eq_false hz]; rfl
    have hz' : ¬ ((0 : Int) < ((allG g xs).length : Int)) := by omega
    go_wp2_with fail
    go_ret
    exact Ret.mk (by rw [HE.out]; first | done | rfl) HB.out.low

end Go.Proofs.Ytbdhkagcbncefaa

set_option linter.unusedVariables false
set_option linter.unusedSimpArgs false
namespace Go.Proofs.Ytbdhkagcbncefaa
open Go.RowKit Go.Maps

theorem vals_new' (w : World) (xs : List Value) (e : TypeId) : Vals (w.alloc (.cells xs.toArray e)) (w.alloc (.cells xs.toArray e)).heap.size (some ⟨w.heap.size, 0, none⟩) xs := by
  have := vals_new w xs e
  rw [World.size_alloc]
  exact this

set_option maxHeartbeats 1000000 in
theorem sameBools_any (xs : List Bool) (A B : Option Addr) (c d : Nat) (w : World) (hl : xs.length ≤ 140737488355328) (hx : Vals w w.heap.size A (bools xs)) (hy : Vals w w.heap.size B (bools xs)) :
    Calls Try.prog 28 #[.slice A xs.length c, .slice B xs.length d] w (Ret w (.bool true)) := by
  have HX := Lib.hid hx
  have HY := Lib.hid hy
  clear hx hy
  go_enter Try.func28, Try.ntmps28
  go_wp2_with fail
  go_loopw [5] (fun s wr => ∃ k : Nat, k ≤ xs.length ∧ s = .int .i64 k ∧ Low w wr) (fun s _ => xs.length - (intOf s).toNat)
  case atStart => exact ⟨0, Nat.zero_le _, rfl, Low.refl _⟩
  case round =>
    obtain ⟨k, hk, rfl, hlow⟩ := hrel
    have HL := Lib.hid hlow
    clear hlow
    by_cases hlt : k < xs.length
    · have hlt' : (k : Int) < (xs.length : Int) := by omega
      obtain ⟨x, hxk⟩ : ∃ q, xs[k]? = some q := ⟨_, List.getElem?_eq_getElem hlt⟩
      obtain ⟨b1, o1, rfl, _, q1⟩ := (HX.out.after HL.out.b) k _ (bools_get hxk)
      obtain ⟨b2, o2, rfl, _, q2⟩ := (HY.out.after HL.out.b) k _ (bools_get hxk)
      clear hxk
      go_wp2_with fail
      refine wp_region_noPanic ?_
      refine wp_region_seq (fun W => W.cell? ⟨b1, o1 + k, none⟩ = some (.bool x) ∧ W.cell? ⟨b2, o2 + k, none⟩ = some (.bool x)) [0, 1, 2, 3, 4, 5, 6, 7, 8] [0, 1, 2, 3, 4, 5, 6, 7, 8] [] (by kernel_rfl) (by kernel_rfl) rfl (by kernel_rfl) (by kernel_rfl) (fun _ _ _ _ _ h => h) ?_ (fun hSS => ?_)
      · exact ⟨q1, q2⟩
      (refine wpSeq_mov rfl rfl ?_; intro o ho; simp only [List.getElem?_toArray, List.getElem?_cons_zero, List.getElem?_cons_succ, Option.some.injEq] at ho; subst ho; refine ⟨?_, Or.inl ⟨by rfl, fun W hSW => ?_⟩, ?_⟩; rotate_left; (focus (go_simp; first | done | with_reducible rfl)); try simp only [Act.put, List.setIfInBounds_toArray, List.set_cons_zero, List.set_cons_succ])
      (refine wpSeq_mov rfl rfl ?_; intro o ho; simp only [List.getElem?_toArray, List.getElem?_cons_zero, List.getElem?_cons_succ, Option.some.injEq] at ho; subst ho; refine ⟨?_, Or.inl ⟨by rfl, fun W hSW => ?_⟩, ?_⟩; rotate_left; (focus (go_simp; first | done | with_reducible rfl)); try simp only [Act.put, List.setIfInBounds_toArray, List.set_cons_zero, List.set_cons_succ])
      (refine wpSeq_mov rfl rfl ?_; intro o ho; simp only [List.getElem?_toArray, List.getElem?_cons_zero, List.getElem?_cons_succ, Option.some.injEq] at ho; subst ho; refine ⟨?_, Or.inl ⟨by rfl, fun W hSW => ?_⟩, ?_⟩; rotate_left; (focus (go_simp; first | done | with_reducible rfl)); try simp only [Act.put, List.setIfInBounds_toArray, List.set_cons_zero, List.set_cons_succ])
      (refine wpSeq_mov rfl rfl ?_; intro o ho; simp only [List.getElem?_toArray, List.getElem?_cons_zero, List.getElem?_cons_succ, Option.some.injEq] at ho; subst ho; refine ⟨?_, Or.inl ⟨by rfl, fun W hSW => ?_⟩, ?_⟩; rotate_left; (focus (go_simp; first | done | with_reducible rfl)); try simp only [Act.put, List.setIfInBounds_toArray, List.set_cons_zero, List.set_cons_succ])
      (refine wpSeq_mov rfl rfl ?_; intro o ho; simp only [List.getElem?_toArray, List.getElem?_cons_zero, List.getElem?_cons_succ, Option.some.injEq] at ho; subst ho; refine ⟨?_, Or.inl ⟨by rfl, fun W hSW => ?_⟩, ?_⟩; rotate_left; (focus (go_simp; first | done | with_reducible rfl)); try simp only [Act.put, List.setIfInBounds_toArray, List.set_cons_zero, List.set_cons_succ])
      (refine wpSeq_mov rfl rfl ?_; intro o ho; simp only [List.getElem?_toArray, List.getElem?_cons_zero, List.getElem?_cons_succ, Option.some.injEq] at ho; subst ho; refine ⟨?_, Or.inl ⟨by rfl, fun W hSW => ?_⟩, ?_⟩; rotate_left; (focus (go_simp; first | done | with_reducible rfl)); try simp only [Act.put, List.setIfInBounds_toArray, List.set_cons_zero, List.set_cons_succ])
      (refine wpSeq_mov rfl rfl ?_; intro o ho; simp only [List.getElem?_toArray, List.getElem?_cons_zero, List.getElem?_cons_succ, Option.some.injEq] at ho; subst ho; refine ⟨?_, Or.inl ⟨by rfl, fun W hSW => ?_⟩, ?_⟩; rotate_left; (focus (go_simp; first | done | with_reducible rfl)); try simp only [Act.put, List.setIfInBounds_toArray, List.set_cons_zero, List.set_cons_succ])
      (refine wpSeq_mov rfl rfl ?_; intro o ho; simp only [List.getElem?_toArray, List.getElem?_cons_zero, List.getElem?_cons_succ, Option.some.injEq] at ho; subst ho; refine ⟨?_, Or.inl ⟨by rfl, fun W hSW => ?_⟩, ?_⟩; rotate_left; (focus (go_simp; first | done | with_reducible rfl)); try simp only [Act.put, List.setIfInBounds_toArray, List.set_cons_zero, List.set_cons_succ])
      (refine wpSeq_mov rfl rfl ?_; intro o ho; simp only [List.getElem?_toArray, List.getElem?_cons_zero, List.getElem?_cons_succ, Option.some.injEq] at ho; subst ho; refine ⟨?_, Or.inl ⟨by rfl, fun W hSW => ?_⟩, ?_⟩; rotate_left; (focus (go_simp; first | done | with_reducible rfl)); try simp only [Act.put, List.setIfInBounds_toArray, List.set_cons_zero, List.set_cons_succ])
      refine wpSeq_done ?_
      go_wp2_with fail
      go_roundw
      case rel => exact ⟨k + 1, by omega, by go_num, HL.out.step (stepD1 _)⟩
      case measure => simp [intOf]; omega
    · have hlt' : ¬ ((k : Int) < (xs.length : Int)) := by omega
      go_wp2_with fail
      go_ret
      exact Ret.mk rfl HL.out.b

theorem shr_pow (n : Int) (k : Nat) : n >>> k = n / 2 ^ k := Int.shiftRight_eq_div_pow n k

set_option maxRecDepth 100000 in
set_option maxHeartbeats 1000000 in
theorem bits_own (n : Int) (m : Nat) (w : World) (h0 : 0 ≤ n) (h1 : n ≤ 9223372036854775807) (hm : m ≤ 63) :
    Calls Try.prog 36 #[.int .i64 n, .int .i64 m] w (fun e w' => ∃ A c, e = .returned (.slice A (bitsG n m).length c) ∧ w'.ownsRow w.heap.size 4 1 (.slice A (bitsG n m).length c) (bitsG n m).length (bools (bitsG n m)) ∧ Below w.heap.size w w') := by
  go_enter Try.func36, Try.ntmps36
  go_wp2_with fail
  go_loopw [5, 6] (fun v i wr => ∃ (k : Nat) (A' : Option Addr) (c' : Nat), k ≤ m ∧ v = .slice A' k c' ∧ i = .int .i64 k ∧ OwnF wr w.heap.size 4 1 (.slice A' k c') k (bools (bitsG n k)) ∧ Low w wr) (fun _ i _ => m - (intOf i).toNat)
  case atStart => exact ⟨0, none, 0, Nat.zero_le _, rfl, rfl, ⟨World.ownsRow_nil _ _ _ _⟩, Low.refl _⟩
  case round =>
    obtain ⟨k, A', c', hk, rfl, rfl, hown, hlow⟩ := hrel
    have HO := Lib.hid hown
    have HL := Lib.hid hlow
    obtain ⟨i0, hi0, hz0, hz1, hz2⟩ := info_parts boolInfo
    have hs := HL.out.size
    clear hown hlow
    by_cases hlt : k < m
    · have hlt' : (k : Int) < (m : Int) := by omega
      have hdn : 0 ≤ n / 2 ^ k := Int.ediv_nonneg h0 (Int.le_of_lt (Int.pow_pos (by omega)))
      have hdl : n / 2 ^ k ≤ n := Int.ediv_le_self _ h0
      have HE : Hid ((bits .and .i64 (n / 2 ^ k) 1 == 1) = decide (n / 2 ^ k % 2 = 1)) := by
        show (bits .and .i64 (n / 2 ^ k) 1 == 1) = _
        rw [and_one _ hdn (by omega), odd_beq]
      clear hdn hdl
      go_wp2_with (first | (at_builtin; refine wpList_append_vals _ rfl (.tmp 12) (.tmp 18) _ rfl w.heap.size 4 i0 _ 1 1 Try.underlying25 hi0 hz0 hz1 hz2 rfl (by omega) (.slice A' k c') k (bools (bitsG n k)) rfl (HO.out.p.alloc _) _ _ 1 1 [.bool (bits .and .i64 (n / 2 ^ k) 1 == 1)] rfl rfl (vals_new wr [.bool (bits .and .i64 (n / 2 ^ k) 1 == 1)] 4) (bools_one [_]) (by unfold maxLen; omega) (by omega) (by simp; omega) ?_; intro v5 w5 hown5 hg5; have HO5 := Lib.hid hown5; have HL5 := Lib.hid ((HL.out.step (stepA wr (.cells #[.bool (bits .and .i64 (n / 2 ^ k) 1 == 1)] 4))).grown hg5 (own_block HO.out.p)); clear hown5 hg5))
      go_roundw
      case rel =>
        obtain ⟨A6, c6, hv6, _⟩ := own_form HO5.out
        subst hv6
        refine ⟨k + 1, A6, c6, by omega, rfl, by go_num, ⟨?_⟩, HL5.out⟩
        rw [bitsG_succ, bools_snoc, ← HE.out]
        exact HO5.out
      case measure => simp [intOf]; omega
    · obtain rfl : k = m := by omega
      have hlt' : ¬ ((k : Int) < (k : Int)) := by omega
      go_wp2_with fail
      go_ret
      have hle : (bitsG n k).length = k := bitsG_length n k
      refine ⟨A', c', ?_, ?_, HL.out.b⟩
      · rw [hle]; rfl
      · rw [hle]; exact HO.out.p

theorem bits_any (n : Int) (m : Nat) (w : World) (h0 : 0 ≤ n) (h1 : n ≤ 9223372036854775807) (hm : m ≤ 63) :
    Calls Try.prog 36 #[.int .i64 n, .int .i64 m] w (RetB w (bitsG n m)) :=
  (bits_own n m w h0 h1 hm).mono fun e w' ⟨A, c, he, ho, hb⟩ => ⟨A, c, he, own_cap ho, Vals.of_own ho, hb⟩

def bt2 : List Bool := [true, true]
theorem al_g1 : allG g1 [true, true] = [false, true, true, true] := by rfl
theorem ev_g1 : evalG g1 6 [true, true] = true := by rfl
theorem ev_g1' : evalG g1 7 [true, true] = false := by rfl
theorem th_g1 : threeG g1 6 [0, 2] = 0 := by rfl
theorem th_g1' : threeG g1 7 [0, 2] = 1 := by rfl
theorem th_g1n : threeG g1 6 [] = 2 := by rfl

theorem vals4 {A : Option Addr} {w : World} {B : Nat} {a b c d : Bool} (h : Vals w B A (bools [a, b, c, d])) : ∃ b' o, A = some ⟨b', o, none⟩ ∧ w.cell? ⟨b', o, none⟩ = some (.bool a) ∧ w.cell? ⟨b', o + 3, none⟩ = some (.bool d) := by
  obtain ⟨b1, o1, e1, _, h1⟩ := h 0 _ rfl
  obtain ⟨b2, o2, e2, _, h2⟩ := h 3 _ rfl
  rw [e1] at e2
  cases e2
  exact ⟨b1, o1, e1, h1, h2⟩

set_option maxRecDepth 100000 in
set_option maxHeartbeats 2000000 in
theorem awake2_any (w : World) : Calls Try.prog 27 #[] w (Ret w (.bool true)) := by
  have hnot := @not_run Try.prog
  have n1 : g1.n = 2 := rfl
  have l1 : g1.as.length = 1 := rfl
  have HC1 := Lib.hid (fun (A : Option Addr) (W : World) (B : Option Addr) (hp : Prs W W.heap.size A g1.as) (hb : Vals W W.heap.size B (bools [true, true])) => eall_any g1 [true, true] A B 1 2 W g1_ok (by simp [g1]) hp (by simp) (by simp) hb)
  have HC2 := Lib.hid (fun (l : Int) (hl : l ≤ 9223372036854775807) (A : Option Addr) (W : World) (B : Option Addr) (hp : Prs W W.heap.size A g1.as) (hb : Vals W W.heap.size B (bools [true, true])) => eEval_any g1 l [true, true] A B 1 2 W g1_ok (by simp [g1]) hp (by simp) (by simp) hb hl)
  have HC3 := Lib.hid (fun (l : Int) (hl : l ≤ 9223372036854775807) (xs : List Int) (hx : xs.length ≤ 2) (A : Option Addr) (W : World) (B : Option Addr) (c : Nat) (hp : Prs W W.heap.size A g1.as) (hb : Vals W W.heap.size B (i64s xs)) => eThree_any g1 l xs A B 1 c W g1_ok (by simp [g1]) hp (by omega) hb hl)
  have HG : Hid (GBox ((w.alloc (.cells #[.int .i64 4, .int .i64 2] 41)).alloc (.cells #[.int .i64 2, .slice (some ⟨w.heap.size, 0, none⟩) 1 1] 24)) (w.heap.size + 1) g1 (some ⟨w.heap.size, 0, none⟩) 1) := by
    have h1 : Prs (w.alloc (.cells #[.int .i64 4, .int .i64 2] 41)) (w.alloc (.cells #[.int .i64 4, .int .i64 2] 41)).heap.size (some ⟨w.heap.size, 0, none⟩) g1.as := Prs.of_vals (vals_new' w [.int .i64 4, .int .i64 2] 41)
    have h2 := GBox.new (g := g1) (d := 1) (w := w.alloc (.cells #[.int .i64 4, .int .i64 2] 41)) (by simp [g1]) h1
    rw [World.size_alloc] at h2
    exact h2
  have HL := Lib.hid (((Low.refl w).step (stepA w (.cells #[.int .i64 4, .int .i64 2] 41))).step (stepA _ (.cells #[.int .i64 2, .slice (some ⟨w.heap.size, 0, none⟩) 1 1] 24)))
  have HV0 : Hid (Vals (((w.alloc (.cells #[.int .i64 4, .int .i64 2] 41)).alloc (.cells #[.int .i64 2, .slice (some ⟨w.heap.size, 0, none⟩) 1 1] 24)).alloc (.cells #[.bool true, .bool true] 4)) (((w.alloc (.cells #[.int .i64 4, .int .i64 2] 41)).alloc (.cells #[.int .i64 2, .slice (some ⟨w.heap.size, 0, none⟩) 1 1] 24)).alloc (.cells #[.bool true, .bool true] 4)).heap.size (some ⟨w.heap.size + 1 + 1, 0, none⟩) (bools [true, true])) := by
    have := vals_new' ((w.alloc (.cells #[.int .i64 4, .int .i64 2] 41)).alloc (.cells #[.int .i64 2, .slice (some ⟨w.heap.size, 0, none⟩) 1 1] 24)) [.bool true, .bool true] 4
    unfold Hid
    simpa [bools] using this
  go_enter Try.func27, Try.ntmps27
  go_wp2_with fail
  replace HG := Lib.hid (HG.out.step (stepA _ (.cells #[.bool true, .bool true] 4))); replace HL := Lib.hid (HL.out.step (stepA _ (.cells #[.bool true, .bool true] 4)))
  refine (HC1.out _ _ _ HG.out.prs HV0.out).mono ?_
  rintro e w1 ⟨A1, c1, rfl, hc1, hv1, hb⟩
  replace HG := Lib.hid (HG.out.step hb); replace HL := Lib.hid (HL.out.step hb)
  clear hb
  rw [al_g1] at hv1 ⊢
  obtain ⟨b1, o1, rfl, q0, q3⟩ := vals4 hv1
  clear hv1
  have c0 := HG.out.c0
  have c1 := HG.out.c1
  go_wp2_with fail
  replace HG := Lib.hid (HG.out.step (stepA _ (.cells #[.bool true, .bool true] 4))); replace HL := Lib.hid (HL.out.step (stepA _ (.cells #[.bool true, .bool true] 4)))
  refine (HC2.out 6 (by omega) _ _ _ HG.out.prs (vals_new' _ [.bool true, .bool true] _)).mono ?_
  rintro e w2 ⟨rfl, hb⟩
  replace HG := Lib.hid (HG.out.step hb); replace HL := Lib.hid (HL.out.step hb)
  rw [ev_g1]
  clear hb q0 q3
  replace c0 := HG.out.c0
  replace c1 := HG.out.c1
  go_wp2_with fail
  replace HG := Lib.hid (HG.out.step (stepA _ (.cells #[.bool true, .bool true] 4))); replace HL := Lib.hid (HL.out.step (stepA _ (.cells #[.bool true, .bool true] 4)))
  refine (HC2.out 7 (by omega) _ _ _ HG.out.prs (vals_new' _ [.bool true, .bool true] _)).mono ?_
  rintro e w3 ⟨rfl, hb⟩
  replace HG := Lib.hid (HG.out.step hb); replace HL := Lib.hid (HL.out.step hb)
  rw [ev_g1']
  clear hb
  replace c0 := HG.out.c0
  replace c1 := HG.out.c1
  go_wp2_with fail
  replace HG := Lib.hid (HG.out.step (stepA _ (.cells #[.int .i64 0, .int .i64 2] 3))); replace HL := Lib.hid (HL.out.step (stepA _ (.cells #[.int .i64 0, .int .i64 2] 3)))
  refine (HC3.out 6 (by omega) [0, 2] (by simp) _ _ _ 2 HG.out.prs (vals_new' _ [.int .i64 0, .int .i64 2] _)).mono ?_
  rintro e w4 ⟨rfl, hb⟩
  replace HG := Lib.hid (HG.out.step hb); replace HL := Lib.hid (HL.out.step hb)
  rw [th_g1]
  clear hb
  replace c0 := HG.out.c0
  replace c1 := HG.out.c1
  go_wp2_with fail
  replace HG := Lib.hid (HG.out.step (stepA _ (.cells #[.int .i64 0, .int .i64 2] 3))); replace HL := Lib.hid (HL.out.step (stepA _ (.cells #[.int .i64 0, .int .i64 2] 3)))
  refine (HC3.out 7 (by omega) [0, 2] (by simp) _ _ _ 2 HG.out.prs (vals_new' _ [.int .i64 0, .int .i64 2] _)).mono ?_
  rintro e w5 ⟨rfl, hb⟩
  replace HG := Lib.hid (HG.out.step hb); replace HL := Lib.hid (HL.out.step hb)
  rw [th_g1']
  clear hb
  replace c0 := HG.out.c0
  replace c1 := HG.out.c1
  go_wp2_with fail
  refine (HC3.out 6 (by omega) [] (by simp) _ _ none 0 HG.out.prs Vals.nil).mono ?_
  rintro e w6 ⟨rfl, hb⟩
  replace HL := Lib.hid (HL.out.step hb)
  rw [th_g1n]
  clear hb c0 c1
  go_wp2_with fail
  go_ret
  exact ⟨rfl, HL.out.b⟩
end Go.Proofs.Ytbdhkagcbncefaa
