/- Layer 2: values of three, the small functions. -/
import Derived.Deep.QuietTactic
import Derived.BigQuiet
import Derived.Test.YtbdhkagcbncefaaKn
namespace Go.Proofs.Ytbdhkagcbncefaa
open Go.RowKit Go.Maps

/-- Numbers as cells. -/
def i64s (xs : List Int) : List Value := xs.map (.int .i64 ·)

theorem i64s_length (xs : List Int) : (i64s xs).length = xs.length := by simp [i64s]
theorem i64s_snoc (xs : List Int) (x : Int) : i64s (xs ++ [x]) = i64s xs ++ [.int .i64 x] := by simp [i64s]
theorem i64s_append (xs ys : List Int) : i64s (xs ++ ys) = i64s xs ++ i64s ys := by simp [i64s]
theorem i64s_one (xs : List Int) : ∀ u ∈ i64s xs, u.oneCell' = true := by
  intro u hu
  obtain ⟨x, _, rfl⟩ := List.mem_map.1 hu
  rfl
theorem i64s_at {xs : List Int} {i : Nat} {x : Int} (h : xs[i]? = some x) : (i64s xs)[i]? = some (.int .i64 x) := by
  unfold i64s
  rw [List.getElem?_map, h]
  rfl
theorem bools_get {xs : List Bool} {i : Nat} {x : Bool} (h : xs[i]? = some x) : (bools xs)[i]? = some (.bool x) := by
  unfold bools
  rw [List.getElem?_map, h]
  rfl

theorem told_any (x : Int) (w : World) : Calls Try.prog 65 #[.int .i64 x] w (fun e w' => e = .returned (.int .i64 (told3 x)) ∧ w' = w) := by
  by_cases h0 : x = 0
  · subst h0
    go_enter Try.func65, Try.ntmps65
    go_wp2_with fail
    go_ret
    exact ⟨rfl, rfl⟩
  · by_cases h1 : x = 1
    · subst h1
      go_enter Try.func65, Try.ntmps65
      go_wp2_with fail
      go_ret
      exact ⟨rfl, rfl⟩
    · have e0 : (x == 0) = false := by simpa using h0
      have e1 : (x == 1) = false := by simpa using h1
      have HE : Hid (told3 x = 2) := by show told3 x = 2; unfold told3; rw [if_neg (by omega)]
      clear h0 h1
      go_enter Try.func65, Try.ntmps65
      go_wp2_with fail
      go_ret
      exact ⟨by rw [HE.out]; rfl, rfl⟩

theorem gate_one (a b r : Int) (row : Value) (w : World) (h1 : ∀ w : World, (Instr.index 115 (.agg #[.int .i64 0, .int .i64 0, .int .i64 0, .int .i64 0, .int .i64 1, .int .i64 2, .int .i64 0, .int .i64 2, .int .i64 2]) (.int .i64 a)).run Try.prog w = .ok row w)
    (h2 : ∀ w : World, (Instr.index 114 row (.int .i64 b)).run Try.prog w = .ok (.int .i64 r) w) :
    Calls Try.prog 67 #[.int .i64 a, .int .i64 b] w (fun e w' => e = .returned (.int .i64 r) ∧ w' = w) := by
  go_enter Try.func67, Try.ntmps67
  go_wp2_with fail
  go_ret
  exact ⟨rfl, rfl⟩

theorem gate_any (a b : Int) (w : World) (ha : Is3 a) (hb : Is3 b) : Calls Try.prog 67 #[.int .i64 a, .int .i64 b] w (fun e w' => e = .returned (.int .i64 (gate3 a b)) ∧ w' = w) := by
  rcases ha with rfl | rfl | rfl <;> rcases hb with rfl | rfl | rfl
  · exact gate_one 0 0 0 (.agg #[.int .i64 0, .int .i64 0, .int .i64 0]) w (fun _ => by kernel_rfl) (fun _ => by kernel_rfl)
  · exact gate_one 0 1 0 (.agg #[.int .i64 0, .int .i64 0, .int .i64 0]) w (fun _ => by kernel_rfl) (fun _ => by kernel_rfl)
  · exact gate_one 0 2 0 (.agg #[.int .i64 0, .int .i64 0, .int .i64 0]) w (fun _ => by kernel_rfl) (fun _ => by kernel_rfl)
  · exact gate_one 1 0 0 (.agg #[.int .i64 0, .int .i64 1, .int .i64 2]) w (fun _ => by kernel_rfl) (fun _ => by kernel_rfl)
  · exact gate_one 1 1 1 (.agg #[.int .i64 0, .int .i64 1, .int .i64 2]) w (fun _ => by kernel_rfl) (fun _ => by kernel_rfl)
  · exact gate_one 1 2 2 (.agg #[.int .i64 0, .int .i64 1, .int .i64 2]) w (fun _ => by kernel_rfl) (fun _ => by kernel_rfl)
  · exact gate_one 2 0 0 (.agg #[.int .i64 0, .int .i64 2, .int .i64 2]) w (fun _ => by kernel_rfl) (fun _ => by kernel_rfl)
  · exact gate_one 2 1 2 (.agg #[.int .i64 0, .int .i64 2, .int .i64 2]) w (fun _ => by kernel_rfl) (fun _ => by kernel_rfl)
  · exact gate_one 2 2 2 (.agg #[.int .i64 0, .int .i64 2, .int .i64 2]) w (fun _ => by kernel_rfl) (fun _ => by kernel_rfl)

theorem turn_any (x : Int) (w : World) (hx : Is3 x) : Calls Try.prog 96 #[.int .i64 x] w (fun e w' => e = .returned (.int .i64 (turn3 x)) ∧ w' = w) := by
  rcases hx with rfl | rfl | rfl
  all_goals
    go_enter Try.func96, Try.ntmps96
    go_wp2_with fail
    go_ret
    exact ⟨rfl, rfl⟩

/-- The value at a literal's variable. -/
theorem i64s_lit {w : World} {B : Nat} {A : Option Addr} {v : List Int} (h : Vals w B A (i64s v)) (h3 : ∀ x ∈ v, Is3 x) {l : Int} (h0 : 0 ≤ l) (h1 : l / 2 < v.length) :
    ∃ b o x, A = some ⟨b, o, none⟩ ∧ b < B ∧ w.cell? ⟨b, o + (l / 2).toNat, none⟩ = some (.int .i64 x) ∧ Is3 x ∧ bit3 v l = if l % 2 = 1 then turn3 x else x := by
  have hl : (l / 2).toNat < v.length := by omega
  obtain ⟨b, o, e, hb, hc⟩ := h.at_ (k := (l / 2).toNat) (by rw [i64s_length]; exact hl)
  refine ⟨b, o, v[(l / 2).toNat], e, hb, by rw [hc]; simp [i64s], h3 _ (List.getElem_mem hl), ?_⟩
  unfold bit3
  rw [List.getElem?_eq_getElem hl]
  rfl

theorem rthree_any (v : List Int) (l : Int) (A : Option Addr) (c : Nat) (w : World) (h0 : 0 ≤ l) (h1 : l / 2 < v.length) (h2 : l ≤ 9223372036854775807) (hv : Vals w w.heap.size A (i64s v)) (h3 : ∀ x ∈ v, Is3 x) :
    Calls Try.prog 68 #[.slice A v.length c, .int .i64 l] w (fun e w' => e = .returned (.int .i64 (bit3 v l)) ∧ w' = w) := by
  obtain ⟨b, o, x, rfl, _, q, hx, e⟩ := i64s_lit hv h3 h0 h1
  have hd : 0 ≤ l / 2 := by omega
  clear hv h3
  by_cases hm : l % 2 = 1
  · have hm' : (l % 2 == 1) = true := by simpa using hm
    rw [if_pos hm] at e
    have HE := Lib.hid e
    have HX := Lib.hid hx
    clear e hm hx
    go_enter Try.func68, Try.ntmps68
    go_wp2_with fail
    refine (turn_any x _ HX.out).mono ?_
    rintro e w' ⟨rfl, rfl⟩
    go_wp2_with fail
    go_ret
    exact ⟨by rw [HE.out]; rfl, rfl⟩
  · have hm' : (l % 2 == 1) = false := by simpa using hm
    rw [if_neg hm] at e
    have HE := Lib.hid e
    have HX := Lib.hid hx
    clear e hm hx
    go_enter Try.func68, Try.ntmps68
    go_wp2_with fail
    go_ret
    exact ⟨by rw [HE.out]; rfl, rfl⟩

theorem ethree_still (v : List Int) (l : Int) (A : Option Addr) (c p : Nat) (w : World) (h0 : 0 ≤ l) (h1 : l / 2 < v.length) (h2 : l ≤ 9223372036854775807) (hp : w.cell? ⟨p, 0, none⟩ = some (.slice A v.length c)) (hv : Vals w w.heap.size A (i64s v)) (h3 : ∀ x ∈ v, Is3 x) :
    Calls Try.prog 66 #[.int .i64 l, .pointer (some ⟨p, 0, none⟩)] w (fun e w' => e = .returned (.int .i64 (bit3 v l)) ∧ w' = w) := by
  obtain ⟨b, o, x, rfl, _, q, hx, e⟩ := i64s_lit hv h3 h0 h1
  have hd : 0 ≤ l / 2 := by omega
  have HA : Hid (bits .and .i64 l 1 = l % 2) := and_one l h0 h2
  clear hv h3
  by_cases hm : l % 2 = 1
  · have hm' : (bits .and .i64 l 1 == 1) = true := by rw [HA.out]; simpa using hm
    rw [if_pos hm] at e
    rcases hx with rfl | rfl | rfl
    all_goals
      have HE := Lib.hid e
      clear e hm
      go_enter Try.func66, Try.ntmps66
      go_wp2_with fail
      go_ret
      exact ⟨by rw [HE.out]; rfl, rfl⟩
  · have hm' : (bits .and .i64 l 1 == 1) = false := by rw [HA.out]; simpa using hm
    rw [if_neg hm] at e
    have HE := Lib.hid e
    have HX := Lib.hid hx
    clear e hm hx
    go_enter Try.func66, Try.ntmps66
    go_wp2_with fail
    go_ret
    exact ⟨by rw [HE.out]; rfl, rfl⟩
end Go.Proofs.Ytbdhkagcbncefaa
