/- Layer 15: a law's own clauses, one append after another. Pigeons and holes: plain data. -/
import Derived.Test.YtbkmgblijncjhaaG8
import Derived.Test.YtbkmgblijncjhaaG1
import Derived.Test.YtbkmgblijncjhaaG2
set_option linter.unusedVariables false
set_option linter.unusedSimpArgs false
namespace Go.Proofs.Ytbkmgblijncjhaa
open Go.RowKit Go.Maps

/-- What stands behind so many appends. -/
structure XSt (w0 wr : World) (p : Nat) (V : Int) (cs : List (List Int)) (A : Option Addr) (c : Nat) (zs : Ks) : Prop where
  low : Low w0 wr
  pb : w0.heap.size ≤ p
  box : BlkF wr p 24 #[.int .i64 V, .slice A zs.length c]
  kb : KB wr w0.heap.size A c zs
  eq : zs.map (·.2.2) = cs
section
variable {w0 wr wr' : World} {p : Nat} {V : Int} {cs : List (List Int)} {A : Option Addr} {c : Nat} {zs : Ks}
theorem XSt.step (h : XSt w0 wr p V cs A c zs) (hb : Below wr.heap.size wr wr') : XSt w0 wr' p V cs A c zs :=
  ⟨h.low.step hb, h.pb, h.box.step hb, h.kb.step hb, h.eq⟩
theorem XSt.aside (h : XSt w0 wr p V cs A c zs) {base sz n : Nat} {v : Value} {xs : List Value} (ho : wr.ownsRow base 3 sz v n xs) (hb : w0.heap.size ≤ base) (hz : ∀ z ∈ zs, z.1 < base) (hg : wr.grownBy wr' v.ownBlock) : XSt w0 wr' p V cs A c zs :=
  ⟨h.low.grown hg (fun k hk => Nat.le_trans hb (own_block ho k hk)), h.pb, ⟨h.box.p.by_ hg (own_ne ho h.box.p (by decide))⟩, h.kb.aside ho (fun z hz' k hk => by have h1 := hz z hz'; have h2 := own_block ho k hk; omega) hg, h.eq⟩
theorem XSt.len (h : XSt w0 wr p V cs A c zs) : zs.length = cs.length := by rw [← h.eq, List.length_map]
theorem XSt.put (h : XSt w0 wr p V cs A c zs) {w5 : World} {A' : Option Addr} {c' : Nat} {ys : Ks} (hg : wr.grownBy w5 (Value.slice A zs.length c).ownBlock)
    (ho : w5.ownsRow w0.heap.size 25 1 (.slice A' (zs ++ ys).length c') (zs ++ ys).length ((zs ++ ys).map slotK)) (hy : ∀ y ∈ ys, y.2.2.length ≤ y.2.1 ∧ HasI wr y.1 y.2.2) :
    XSt w0 (w5.setCell ⟨p, 1, none⟩ (.slice A' (zs ++ ys).length c')) p V (cs ++ ys.map (·.2.2)) A' c' (zs ++ ys) := by
  have hB5 : Blk w5 p 24 #[.int .i64 V, .slice A zs.length c] := h.box.p.by_ hg (own_ne h.kb.own h.box.p (by decide))
  refine ⟨⟨(h.low.b.grown hg h.low.size (own_block h.kb.own)).setCell (p := ⟨p, 1, none⟩) h.pb _⟩, h.pb, ⟨hB5.set_ 1 _⟩, (h.kb.grow hg ho hy).set hB5 (by decide) (by decide) 1 _, ?_⟩
  rw [List.map_append, h.eq]
theorem XSt.cls (h : XSt w0 wr p V cs A c zs) : Cls wr wr.heap.size A cs := by
  rw [← h.eq]
  exact h.kb.cls
theorem XSt.new (w : World) (V : Int) : XSt w (w.alloc (.cells #[.int .i64 V, .slice none 0 0] 24)) w.heap.size V [] none 0 [] :=
  ⟨(Low.refl w).step (stepA w _), Nat.le_refl _, BlkF.new w _ _, KB.nil _ _, rfl⟩
end
end Go.Proofs.Ytbkmgblijncjhaa

set_option linter.unusedVariables false
namespace Go.Proofs.Ytbkmgblijncjhaa

theorem pigeon : ∀ (H : Nat) (f : Nat → Nat), (∀ p, p ≤ H → f p < H) → ∃ p q, q < p ∧ p ≤ H ∧ f p = f q
  | 0, f, h => absurd (h 0 (Nat.le_refl _)) (by omega)
  | H + 1, f, h => by
    by_cases hq : ∃ q, q ≤ H ∧ f q = f (H + 1)
    · obtain ⟨q, h1, h2⟩ := hq
      exact ⟨H + 1, q, by omega, Nat.le_refl _, h2.symm⟩
    · have hne : ∀ q, q ≤ H → f q ≠ f (H + 1) := fun q h1 h2 => hq ⟨q, h1, h2⟩
      have ha := h (H + 1) (Nat.le_refl _)
      obtain ⟨p, q, h1, h2, h3⟩ := pigeon H (fun p => if f (H + 1) < f p then f p - 1 else f p) (fun p hp => by
        have h4 := h p (by omega)
        have h5 := hne p hp
        show (if f (H + 1) < f p then f p - 1 else f p) < H
        split <;> omega)
      have h5 := hne p h2
      have h6 := hne q (by omega)
      refine ⟨p, q, h1, by omega, ?_⟩
      have h3 : (if f (H + 1) < f p then f p - 1 else f p) = (if f (H + 1) < f q then f q - 1 else f q) := h3
      split at h3 <;> split at h3 <;> omega

def holeX (H p h : Nat) : Int := 1 + (p : Int) * H + h
def holeL (H p k : Nat) : List Int := (List.range k).map (holeX H p)
def pairC (H h p q : Nat) : List Int := [-1 - (p : Int) * H - h, -1 - (q : Int) * H - h]
def pairL (H h p k : Nat) : List (List Int) := (List.range k).map (pairC H h p)
def pairP (H h k : Nat) : List (List Int) := (List.range k).flatMap fun p => pairL H h p p
def pairH (H P k : Nat) : List (List Int) := (List.range k).flatMap fun h => pairP H h P
def holesK (H k : Nat) : List (List Int) := (List.range k).map fun p => holeL H p H
def hardK (H P : Nat) : List (List Int) := holesK H P ++ pairH H P H

theorem holeL_succ (H p k : Nat) : holeL H p (k + 1) = holeL H p k ++ [holeX H p k] := by simp [holeL, List.range_succ]
theorem holeL_len (H p k : Nat) : (holeL H p k).length = k := by simp [holeL]
theorem pairL_succ (H h p k : Nat) : pairL H h p (k + 1) = pairL H h p k ++ [pairC H h p k] := by simp [pairL, List.range_succ]
theorem pairP_succ (H h k : Nat) : pairP H h (k + 1) = pairP H h k ++ pairL H h k k := by simp [pairP, List.range_succ]
theorem pairH_succ (H P k : Nat) : pairH H P (k + 1) = pairH H P k ++ pairP H k P := by simp [pairH, List.range_succ]
theorem holesK_succ (H k : Nat) : holesK H (k + 1) = holesK H k ++ [holeL H k H] := by simp [holesK, List.range_succ]
theorem holesK_len (H k : Nat) : (holesK H k).length = k := by simp [holesK]
theorem pairL_len (H h p k : Nat) : (pairL H h p k).length = k := by simp [pairL]
theorem pairP_len (H h : Nat) : ∀ k, k ≤ 5 → (pairP H h k).length ≤ 10 - (5 - k)
  | 0, _ => by simp [pairP]
  | k + 1, hk => by
    have := pairP_len H h k (by omega)
    rw [pairP_succ, List.length_append, pairL_len]
    rcases (by omega : k = 0 ∨ k = 1 ∨ k = 2 ∨ k = 3 ∨ k = 4) with rfl | rfl | rfl | rfl | rfl <;> simp [pairP, pairL, List.range_succ] at this ⊢
theorem pairP_len10 (H h k : Nat) (hk : k ≤ 5) : (pairP H h k).length ≤ 10 := by
  have := pairP_len H h k hk
  omega
theorem pairH_len (H P : Nat) (hP : P ≤ 5) : ∀ k, (pairH H P k).length ≤ 10 * k
  | 0 => by simp [pairH]
  | k + 1 => by
    have h1 := pairH_len H P hP k
    have h2 := pairP_len10 H k P hP
    rw [pairH_succ, List.length_append]
    omega
theorem hardK_len {H P : Nat} (hH : H ≤ 4) (hP : P ≤ 5) : (hardK H P).length ≤ 45 := by
  have := pairH_len H P hP H
  unfold hardK
  rw [List.length_append, holesK_len]
  omega
theorem hardK_mem {H P : Nat} {c : List Int} : c ∈ hardK H P ↔ (∃ p, p < P ∧ c = holeL H p H) ∨ ∃ h p q, h < H ∧ p < P ∧ q < p ∧ c = pairC H h p q := by
  unfold hardK holesK pairH pairP pairL
  rw [List.mem_append, List.mem_map, List.mem_flatMap]
  constructor
  · rintro (⟨p, hp, rfl⟩ | ⟨h, hh, hc⟩)
    · exact .inl ⟨p, List.mem_range.1 hp, rfl⟩
    · obtain ⟨p, hp, hc⟩ := List.mem_flatMap.1 hc
      obtain ⟨q, hq, rfl⟩ := List.mem_map.1 hc
      exact .inr ⟨h, p, q, List.mem_range.1 hh, List.mem_range.1 hp, List.mem_range.1 hq, rfl⟩
  · rintro (⟨p, hp, rfl⟩ | ⟨h, p, q, hh, hp, hq, rfl⟩)
    · exact .inl ⟨p, List.mem_range.2 hp, rfl⟩
    · exact .inr ⟨h, List.mem_range.2 hh, List.mem_flatMap.2 ⟨p, List.mem_range.2 hp, List.mem_map.2 ⟨q, List.mem_range.2 hq, rfl⟩⟩⟩
theorem hardK_small {H P : Nat} (hH : H ≤ 4) : ∀ c ∈ hardK H P, c.length ≤ 4 := by
  intro c hc
  rcases hardK_mem.1 hc with ⟨p, _, rfl⟩ | ⟨h, p, q, _, _, _, rfl⟩
  · rw [holeL_len]; exact hH
  · simp [pairC]
theorem cell_le {H P p h : Nat} (hp : p < P) (hh : h < H) : p * H + h + 1 ≤ P * H := by
  have := Nat.mul_le_mul_right H (show p + 1 ≤ P by omega)
  rw [Nat.add_mul, Nat.one_mul] at this
  omega
theorem holeX_nat (H p h : Nat) : holeX H p h = ((p * H + h + 1 : Nat) : Int) := by
  unfold holeX
  simp only [Int.natCast_add, Int.natCast_mul]
  omega
theorem pairC_nat (H h p q : Nat) : pairC H h p q = [-((p * H + h + 1 : Nat) : Int), -((q * H + h + 1 : Nat) : Int)] := by
  unfold pairC
  simp only [Int.natCast_add, Int.natCast_mul]
  congr 1
  · omega
  · congr 1
    omega
theorem hardK_right {H P : Nat} (hH : H ≤ 4) (hP : P ≤ 5) : rightC ((P * H : Nat) : Int) (hardK H P) = true := by
  have hPH : P * H ≤ 5 * 4 := Nat.mul_le_mul hP hH
  refine rightC_iff.2 ⟨by omega, by omega, by have := hardK_len hH hP; omega, fun c hc x hx => ?_⟩
  rcases hardK_mem.1 hc with ⟨p, hp, rfl⟩ | ⟨h, p, q, hh, hp, hq, rfl⟩
  · obtain ⟨h, hh, rfl⟩ := List.mem_map.1 hx
    have := cell_le hp (List.mem_range.1 hh)
    rw [holeX_nat]
    omega
  · have h1 := cell_le hp hh
    have h2 := cell_le (show q < P by omega) hh
    rw [pairC_nat] at hx
    simp only [List.mem_cons, List.not_mem_nil, or_false] at hx
    rcases hx with rfl | rfl <;> omega
theorem litOn_pos (m : Nat → Bool) (k : Nat) : litOn m (k : Int) = m k := by
  unfold litOn
  rw [if_neg (by omega), Int.natAbs_natCast]
theorem litOn_min (m : Nat → Bool) (k : Nat) (hk : 0 < k) : litOn m (-(k : Int)) = !m k := by
  unfold litOn
  rw [if_pos (by omega), Int.natAbs_neg, Int.natAbs_natCast]
theorem hard_no {H : Nat} (m : Nat → Bool) (h : SatF m (hardK H (H + 1))) : False := by
  have h1 : ∀ p, p ≤ H → ∃ k, k < H ∧ m (p * H + k + 1) = true := fun p hp => by
    obtain ⟨x, hx, ho⟩ := h (holeL H p H) (hardK_mem.2 (.inl ⟨p, by omega, rfl⟩))
    obtain ⟨k, hk, rfl⟩ := List.mem_map.1 hx
    rw [holeX_nat, litOn_pos] at ho
    exact ⟨k, List.mem_range.1 hk, ho⟩
  obtain ⟨p, q, hq, hp, he⟩ := pigeon H (fun p => if hp : p ≤ H then Classical.choose (h1 p hp) else 0) (fun p hp => by
    simp only [dif_pos hp]
    exact (Classical.choose_spec (h1 p hp)).1)
  simp only [dif_pos hp, dif_pos (show q ≤ H by omega)] at he
  have a1 := Classical.choose_spec (h1 p hp)
  have a2 := Classical.choose_spec (h1 q (by omega))
  rw [he] at a1
  generalize Classical.choose (h1 q (by omega)) = k at a1 a2
  obtain ⟨x, hx, ho⟩ := h (pairC H k p q) (hardK_mem.2 (.inr ⟨k, p, q, a1.1, by omega, hq, rfl⟩))
  rw [pairC_nat] at hx
  simp only [List.mem_cons, List.not_mem_nil, or_false] at hx
  rcases hx with rfl | rfl
  · rw [litOn_min _ _ (by omega), a1.2] at ho
    cases ho
  · rw [litOn_min _ _ (by omega), a2.2] at ho
    cases ho
theorem hard_yes (H : Nat) (hH : 1 ≤ H) : SatF (fun v => decide ((v - 1) / H = (v - 1) % H)) (hardK H H) := by
  have hd : ∀ p h, h < H → ((p * H + h + 1 - 1) / H = p ∧ (p * H + h + 1 - 1) % H = h) := fun p h hh => by
    rw [show p * H + h + 1 - 1 = h + p * H by omega]
    exact ⟨by rw [Nat.add_mul_div_right _ _ (by omega), Nat.div_eq_of_lt hh]; omega, by rw [Nat.add_mul_mod_self_right, Nat.mod_eq_of_lt hh]⟩
  intro c hc
  rcases hardK_mem.1 hc with ⟨p, hp, rfl⟩ | ⟨h, p, q, hh, hp, hq, rfl⟩
  · refine ⟨holeX H p p, List.mem_map.2 ⟨p, List.mem_range.2 hp, rfl⟩, ?_⟩
    rw [holeX_nat, litOn_pos, (hd p p hp).1, (hd p p hp).2]
    simp
  · rw [pairC_nat]
    by_cases he : p = h
    · refine ⟨_, List.mem_cons_of_mem _ (List.mem_cons_self ..), ?_⟩
      rw [litOn_min _ _ (by omega), (hd q h hh).1, (hd q h hh).2]
      simp
      omega
    · refine ⟨_, List.mem_cons_self .., ?_⟩
      rw [litOn_min _ _ (by omega), (hd p h hh).1, (hd p h hh).2]
      simpa using he
end Go.Proofs.Ytbkmgblijncjhaa
