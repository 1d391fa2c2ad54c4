/- Layer 15: chains of clauses, solved without a guess. -/
import Derived.Test.YtbkmgblijncjhaaSatFlat
set_option linter.unusedVariables false
set_option linter.unusedSimpArgs false
namespace Go.Proofs.Ytbkmgblijncjhaa
open Go.RowKit Go.Maps

def unitC (i : Nat) : List Int := if i = 0 then [1] else [(i : Int) + 1, -(i : Int)]
def unitsK (n : Nat) : List (List Int) := (List.range n).map unitC
theorem unitsK_succ (n : Nat) : unitsK (n + 1) = unitsK n ++ [unitC n] := by simp [unitsK, List.range_succ]
theorem unitsK_len (n : Nat) : (unitsK n).length = n := by simp [unitsK]
theorem unitsK_mem {n : Nat} {c : List Int} : c ∈ unitsK n ↔ ∃ i, i < n ∧ c = unitC i := by
  unfold unitsK
  rw [List.mem_map]
  constructor
  · rintro ⟨i, h1, rfl⟩
    exact ⟨i, List.mem_range.1 h1, rfl⟩
  · rintro ⟨i, h1, rfl⟩
    exact ⟨i, List.mem_range.2 h1, rfl⟩
theorem unitC_mem {i : Nat} {x : Int} : x ∈ unitC i → x = (i : Int) + 1 ∨ (0 < i ∧ x = -(i : Int)) := by
  unfold unitC
  split
  · next h =>
    subst h
    intro h
    simp at h
    exact .inl (by omega)
  · intro h
    simp at h
    rcases h with h | h
    · exact .inl h
    · exact .inr ⟨by omega, h⟩
theorem unitC_top (i : Nat) : (i : Int) + 1 ∈ unitC i := by
  unfold unitC
  split
  · next h => subst h; simp
  · simp
theorem unitC_len (i : Nat) : (unitC i).length ≤ 2 := by
  unfold unitC
  split <;> simp
theorem units_true (n : Nat) {cs : List (List Int)} (hm : ∀ c, c ∈ cs ↔ ∃ i, i < n ∧ c = unitC i) : SatF (fun _ => true) cs := fun c hc => by
  obtain ⟨i, _, rfl⟩ := (hm c).1 hc
  refine ⟨_, unitC_top i, ?_⟩
  unfold litOn
  rw [if_neg (by omega)]
theorem units_all (n : Nat) {cs : List (List Int)} (hm : ∀ c, c ∈ cs ↔ ∃ i, i < n ∧ c = unitC i) {m : Nat → Bool} (hs : SatF m cs) : ∀ i, i < n → m (i + 1) = true
  | 0, h => by
    obtain ⟨x, hx, ho⟩ := hs (unitC 0) ((hm _).2 ⟨0, h, rfl⟩)
    rcases unitC_mem hx with rfl | ⟨h1, _⟩
    · unfold litOn at ho
      rwa [if_neg (by omega)] at ho
    · omega
  | i + 1, h => by
    have ih := units_all n hm hs i (by omega)
    obtain ⟨x, hx, ho⟩ := hs (unitC (i + 1)) ((hm _).2 ⟨i + 1, h, rfl⟩)
    rcases unitC_mem hx with rfl | ⟨_, rfl⟩
    · unfold litOn at ho
      rw [if_neg (by omega)] at ho
      have e : (((i + 1 : Nat) : Int) + 1).natAbs = i + 1 + 1 := by omega
      rwa [e] at ho
    · unfold litOn at ho
      rw [if_pos (by omega)] at ho
      have e : (-((i + 1 : Nat) : Int)).natAbs = i + 1 := by omega
      rw [e, ih] at ho
      cases ho

theorem units_told {n : Nat} {F cls : List (List Int)} {s : SS} (hi : Inv n F s) (hw : W2 s) (hd : s.done = s.tr.length) (hk : ∀ i, i < n → normC (unitC i) ∈ s.cls) : ∀ u, u < n → ((u + 1 : Nat) : Int) ∈ s.lits
  | u, hu => by
    have ih : 0 < u → ((u : Nat) : Int) ∈ s.lits := fun h => by
      have := units_told (cls := cls) hi hw hd hk (u - 1) (by omega)
      rwa [show u - 1 + 1 = u by omega] at this
    have htk : s.lits.take s.done = s.lits := by rw [hd, ← hi.lits_len, List.take_length]
    rcases hw _ (hk u hu) with ⟨y, h1, h2⟩ | ⟨y, h1, z, h2, h3, h4, h5⟩
    · rcases unitC_mem (normC_mem.1 h1) with rfl | ⟨h6, rfl⟩
      · exact h2
      · exact (hi.not_both (ih h6) h2).elim
    · rw [htk] at h4 h5
      rcases unitC_mem (normC_mem.1 h1) with rfl | ⟨h6, rfl⟩
      · rcases unitC_mem (normC_mem.1 h2) with rfl | ⟨h6, rfl⟩
        · exact absurd rfl h3
        · rw [Int.neg_neg] at h5
          exact absurd (ih h6) h5
      · rw [Int.neg_neg] at h4
        exact absurd (ih h6) h4

theorem solve_units (n : Nat) (hn : n ≤ 200) (cs : List (List Int)) (hm : ∀ c, c ∈ cs ↔ ∃ i, i < n ∧ c = unitC i) (hcs : cs.length ≤ 200) (A : Option Addr) (c : Nat) (l : List Int) (B : Option Addr) (d : Nat) (w : World) (hlx : ∀ x ∈ l, x ≠ 0 ∧ x ≤ (n : Int) ∧ -(n : Int) ≤ x) (hll : l.length ≤ 1000) (hp : Cls w w.heap.size A cs) (hq : Vals w w.heap.size B (i64s l)) (hcc : cs.length ≤ c) (hd : l.length ≤ d) :
    Calls Try.prog 11 #[.agg #[.int .i64 (n : Int), .slice A cs.length c], .slice B l.length d, .int .i64 0] w (SolPost w n cs l) := by
  have hrg : rightC n cs = true := rightC_iff.2 ⟨by omega, by omega, by omega, fun q hq x hx => by
    obtain ⟨i, hi, rfl⟩ := (hm q).1 hq
    rcases unitC_mem hx with rfl | ⟨h1, rfl⟩ <;> omega⟩
  have hno : l.any (oddX n) = false := List.any_eq_false.2 fun x hx => by rw [oddX_no.2 (hlx x hx)]; simp
  refine solve_gen n cs A c l B d w hrg hno (fun x hx => by
    obtain ⟨i, _, rfl⟩ := (hm x).1 hx
    have := unitC_len i
    omega) (by omega) hp hq hcc hd fun W b s G o hR => ?_
  have hkp : ∀ i, i < n → normC (unitC i) ∈ s.cls := fun i hi => by
    rcases hR.keep _ ((hm _).2 ⟨i, hi, rfl⟩) with ⟨x, h1, h2⟩ | h
    · rcases unitC_mem h1 with rfl | ⟨h3, rfl⟩
      · rcases unitC_mem h2 with h4 | ⟨_, h4⟩ <;> omega
      · rcases unitC_mem h2 with h4 | ⟨_, h4⟩ <;> omega
    · exact h
  have h1 := hR.cn
  refine run_flat hR.m hR.r hR.i (fun p x r h => ?_) hR.lims ⟨_, units_true n hm⟩ hR.dead (fun hd c hc => ?_) (fun hd c hc => ?_) (fun s2 h2 h3 h4 _ h6 u hu1 hu2 => ?_) (by omega) (hq.after hR.low) (fun hne k p e => ?_) (by omega) hd (fun x hx => ?_) (by omega)
  · rw [hR.lims] at h
    cases h
  · have hne := (hR.ne hd c hc).ne
    cases c with
    | nil => exact absurd rfl hne
    | cons y c =>
      refine ⟨y, List.mem_cons_self .., ?_⟩
      rw [hR.done]
      simp
  · rw [hR.done]
    exact (hR.ne hd c hc).w2
  · refine .inl ?_
    have := units_told (cls := cs) h2 h3 h4 (fun i hi => by rw [h6]; exact hkp i hi) (u - 1) (by omega)
    rwa [show u - 1 + 1 = u by omega] at this
  · obtain ⟨k', p', e', hk, _⟩ := hq 0 (.int .i64 (l.head hne)) (by
      cases l with
      | nil => exact absurd rfl hne
      | cons y l => rfl)
    rw [e] at e'
    cases e'
    cases e2 : o k with
    | none => rfl
    | some lb =>
      have := hR.m.ol k lb e2
      omega
  · have := hlx x hx
    omega
end Go.Proofs.Ytbkmgblijncjhaa
