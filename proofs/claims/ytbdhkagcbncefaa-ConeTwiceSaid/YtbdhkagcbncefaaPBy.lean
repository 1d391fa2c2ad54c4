/- Literals by numbers: plain data. -/
import Derived.Test.YtbdhkagcbncefaaG6
set_option linter.unusedVariables false
set_option linter.unusedSimpArgs false
namespace Go.Proofs.Ytbdhkagcbncefaa

/-- The literals that inputs are to be, by numbers. -/
def byAt (bs : List Int) (M : Int) (i : Nat) : Int := (bs[i]?.getD (i : Int)) % M
def byL (bs : List Int) (M : Int) (n : Nat) : List Int := (List.range n).map (byAt bs M)
theorem byL_length (bs : List Int) (M : Int) (n : Nat) : (byL bs M n).length = n := by simp [byL]
theorem byL_succ (bs : List Int) (M : Int) (n : Nat) : byL bs M (n + 1) = byL bs M n ++ [byAt bs M n] := by simp [byL, List.range_succ]
theorem byAt_lit {t : Gr} (hr : rightB t = true) {bs : List Int} (hb : ∀ b ∈ bs, 0 ≤ b ∧ b ≤ 255) (i : Nat) : litB t (byAt bs (2 * (t.n + 1 + (t.as.length : Int))) i) = true := by
  have h1 := (right_vars hr).2.2.2
  unfold Gr.vars at h1
  exact lit_of hr (Int.emod_nonneg _ (by omega)) (Int.emod_lt_of_pos _ (by omega))
theorem byL_lit {t : Gr} (hr : rightB t = true) {bs : List Int} (hb : ∀ b ∈ bs, 0 ≤ b ∧ b ≤ 255) (n : Nat) : ∀ x ∈ byL bs (2 * (t.n + 1 + (t.as.length : Int))) n, litB t x = true := by
  intro x hx
  unfold byL at hx
  obtain ⟨i, _, rfl⟩ := List.mem_map.1 hx
  exact byAt_lit hr hb i
end Go.Proofs.Ytbdhkagcbncefaa
