/- Layer 2: a literal by the variables' values. -/
import Derived.Test.YtbdhkagcbncefaaPEval
import Derived.Test.YtbdhkagcbncefaaBox
namespace Go.Proofs.Ytbdhkagcbncefaa
open Go.RowKit Go.Maps

/-- Truth values as cells. -/
def bools (xs : List Bool) : List Value := xs.map (.bool ·)

theorem bools_length (xs : List Bool) : (bools xs).length = xs.length := by simp [bools]
theorem bools_snoc (xs : List Bool) (x : Bool) : bools (xs ++ [x]) = bools xs ++ [.bool x] := by simp [bools]
theorem bools_append (xs ys : List Bool) : bools (xs ++ ys) = bools xs ++ bools ys := by simp [bools]
theorem bools_one (xs : List Bool) : ∀ u ∈ bools xs, u.oneCell' = true := by
  intro u hu
  obtain ⟨x, _, rfl⟩ := List.mem_map.1 hu
  rfl

/-- The value at a literal's variable. -/
theorem bools_at {w : World} {B : Nat} {A : Option Addr} {v : List Bool} (h : Vals w B A (bools v)) {l : Int} (h0 : 0 ≤ l) (h1 : l / 2 < v.length) :
    ∃ b o x, A = some ⟨b, o, none⟩ ∧ b < B ∧ w.cell? ⟨b, o + (l / 2).toNat, none⟩ = some (.bool x) ∧ bitB v l = (x != decide (l % 2 = 1)) := by
  have hl : (l / 2).toNat < v.length := by omega
  obtain ⟨b, o, e, hb, hc⟩ := h.at_ (k := (l / 2).toNat) (by rw [bools_length]; exact hl)
  refine ⟨b, o, v[(l / 2).toNat], e, hb, by rw [hc]; simp [bools], ?_⟩
  unfold bitB
  rw [List.getElem?_eq_getElem hl]
  rfl

theorem and_i64 (a b : Nat) (ha : a < 9223372036854775808) (hb : b < 9223372036854775808) : bits .and .i64 (a : Int) (b : Int) = ((a &&& b : Nat) : Int) := by
  have hx : a &&& b < 9223372036854775808 := Nat.and_lt_two_pow (n := 63) a hb
  show IntKind.i64.wrap ((BitVec.ofInt 64 (a : Int) &&& BitVec.ofInt 64 (b : Int)).toNat : Int) = _
  rw [BitVec.toNat_and, ofInt64_nat a ha, ofInt64_nat b hb]
  exact IntWalk.i64_in _ (by omega)

theorem and_one (l : Int) (h0 : 0 ≤ l) (h1 : l ≤ 9223372036854775807) : bits .and .i64 l 1 = l % 2 := by
  have := and_i64 l.toNat 1 (by omega) (by omega)
  rw [Nat.and_one_is_mod] at this
  have e : ((l.toNat : Nat) : Int) = l := by omega
  rw [e] at this
  rw [show ((1 : Nat) : Int) = 1 from rfl] at this
  rw [this]
  omega

theorem odd_beq (l : Int) : (l % 2 == 1) = decide (l % 2 = 1) := by by_cases h : l % 2 = 1 <;> simp [h]

theorem rbit_any (v : List Bool) (l : Int) (A : Option Addr) (c : Nat) (w : World) (h0 : 0 ≤ l) (h1 : l / 2 < v.length) (h2 : l ≤ 9223372036854775807) (hv : Vals w w.heap.size A (bools v)) :
    Calls Try.prog 63 #[.slice A v.length c, .int .i64 l] w (Ret w (.bool (bitB v l))) := by
  obtain ⟨b, o, x, rfl, _, q, e⟩ := bools_at hv h0 h1
  have HE := Lib.hid e
  have hd : 0 ≤ l / 2 := by omega
  clear hv e
  go_enter Try.func63, Try.ntmps63
  go_wp2_with fail
  go_ret
  refine Ret.mk ?_ (Below.refl _ _)
  show Value.bool (!(x == (l % 2 == 1))) = _
  rw [HE.out, odd_beq]
  rfl

theorem ebit_still (v : List Bool) (l : Int) (A : Option Addr) (c p : Nat) (w : World) (h0 : 0 ≤ l) (h1 : l / 2 < v.length) (h2 : l ≤ 9223372036854775807) (hp : w.cell? ⟨p, 0, none⟩ = some (.slice A v.length c)) (hv : Vals w w.heap.size A (bools v)) :
    Calls Try.prog 62 #[.int .i64 l, .pointer (some ⟨p, 0, none⟩)] w (fun e w' => e = .returned (.bool (bitB v l)) ∧ w' = w) := by
  obtain ⟨b, o, x, rfl, _, q, e⟩ := bools_at hv h0 h1
  have HE := Lib.hid e
  have hd : 0 ≤ l / 2 := by omega
  clear hv e
  go_enter Try.func62, Try.ntmps62
  go_wp2_with fail
  go_ret
  refine ⟨?_, rfl⟩
  refine congrArg Ending.returned ?_
  show Value.bool (!(x == (bits .and .i64 l 1 == 1))) = _
  rw [HE.out, and_one l h0 h2, odd_beq]
  rfl
end Go.Proofs.Ytbdhkagcbncefaa
