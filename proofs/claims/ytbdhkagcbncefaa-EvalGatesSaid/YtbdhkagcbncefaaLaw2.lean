/- Layer 2: lists of truth values, the lowest bits, 'awake'. -/
import Derived.Test.YtbdhkagcbncefaaEEval
import Derived.Test.YtbdhkagcbncefaaEThree
set_option linter.unusedVariables false
set_option linter.unusedSimpArgs false
namespace Go.Proofs.Ytbdhkagcbncefaa
open Go.RowKit Go.Maps

theorem vals_new' (w : World) (xs : List Value) (e : TypeId) : Vals (w.alloc (.cells xs.toArray e)) (w.alloc (.cells xs.toArray e)).heap.size (some ⟨w.heap.size, 0, none⟩) xs := by
  have := vals_new w xs e
  rw [World.size_alloc]
  exact this

set_option maxHeartbeats 1000000 in
theorem sameBools_any (xs : List Bool) (A B : Option Addr) (c d : Nat) (w : World) (hl : xs.length ≤ 140737488355328) (hx : Vals w w.heap.size A (bools xs)) (hy : Vals w w.heap.size B (bools xs)) :
    Calls Try.prog 28 #[.slice A xs.length c, .slice B xs.length d] w (Ret w (.bool true)) := by
  have HX := Lib.hid hx
  have HY := Lib.hid hy
  clear hx hy
  go_enter Try.func28, Try.ntmps28
  go_wp2_with fail
  go_loopw [5] (fun s wr => ∃ k : Nat, k ≤ xs.length ∧ s = .int .i64 k ∧ Low w wr) (fun s _ => xs.length - (intOf s).toNat)
  case atStart => exact ⟨0, Nat.zero_le _, rfl, Low.refl _⟩
  case round =>
    obtain ⟨k, hk, rfl, hlow⟩ := hrel
    have HL := Lib.hid hlow
    clear hlow
    by_cases hlt : k < xs.length
    · have hlt' : (k : Int) < (xs.length : Int) := by omega
      obtain ⟨x, hxk⟩ : ∃ q, xs[k]? = some q := ⟨_, List.getElem?_eq_getElem hlt⟩
      obtain ⟨b1, o1, rfl, _, q1⟩ := (HX.out.after HL.out.b) k _ (bools_get hxk)
      obtain ⟨b2, o2, rfl, _, q2⟩ := (HY.out.after HL.out.b) k _ (bools_get hxk)
      clear hxk
      go_wp2_with fail
      refine wp_region_noPanic ?_
      refine wp_region_seq (fun W => W.cell? ⟨b1, o1 + k, none⟩ = some (.bool x) ∧ W.cell? ⟨b2, o2 + k, none⟩ = some (.bool x)) [0, 1, 2, 3, 4, 5, 6, 7, 8] [0, 1, 2, 3, 4, 5, 6, 7, 8] [] (by kernel_rfl) (by kernel_rfl) rfl (by kernel_rfl) (by kernel_rfl) (fun _ _ _ _ _ h => h) ?_ (fun hSS => ?_)
      · exact ⟨q1, q2⟩
      (refine wpSeq_mov rfl rfl ?_; intro o ho; simp only [List.getElem?_toArray, List.getElem?_cons_zero, List.getElem?_cons_succ, Option.some.injEq] at ho; subst ho; refine ⟨?_, Or.inl ⟨by rfl, fun W hSW => ?_⟩, ?_⟩; rotate_left; (focus (go_simp; first | done | with_reducible rfl)); try simp only [Act.put, List.setIfInBounds_toArray, List.set_cons_zero, List.set_cons_succ])
      (refine wpSeq_mov rfl rfl ?_; intro o ho; simp only [List.getElem?_toArray, List.getElem?_cons_zero, List.getElem?_cons_succ, Option.some.injEq] at ho; subst ho; refine ⟨?_, Or.inl ⟨by rfl, fun W hSW => ?_⟩, ?_⟩; rotate_left; (focus (go_simp; first | done | with_reducible rfl)); try simp only [Act.put, List.setIfInBounds_toArray, List.set_cons_zero, List.set_cons_succ])
      (refine wpSeq_mov rfl rfl ?_; intro o ho; simp only [List.getElem?_toArray, List.getElem?_cons_zero, List.getElem?_cons_succ, Option.some.injEq] at ho; subst ho; refine ⟨?_, Or.inl ⟨by rfl, fun W hSW => ?_⟩, ?_⟩; rotate_left; (focus (go_simp; first | done | with_reducible rfl)); try simp only [Act.put, List.setIfInBounds_toArray, List.set_cons_zero, List.set_cons_succ])
      (refine wpSeq_mov rfl rfl ?_; intro o ho; simp only [List.getElem?_toArray, List.getElem?_cons_zero, List.getElem?_cons_succ, Option.some.injEq] at ho; subst ho; refine ⟨?_, Or.inl ⟨by rfl, fun W hSW => ?_⟩, ?_⟩; rotate_left; (focus (go_simp; first | done | with_reducible rfl)); try simp only [Act.put, List.setIfInBounds_toArray, List.set_cons_zero, List.set_cons_succ])
      (refine wpSeq_mov rfl rfl ?_; intro o ho; simp only [List.getElem?_toArray, List.getElem?_cons_zero, List.getElem?_cons_succ, Option.some.injEq] at ho; subst ho; refine ⟨?_, Or.inl ⟨by rfl, fun W hSW => ?_⟩, ?_⟩; rotate_left; (focus (go_simp; first | done | with_reducible rfl)); try simp only [Act.put, List.setIfInBounds_toArray, List.set_cons_zero, List.set_cons_succ])
      (refine wpSeq_mov rfl rfl ?_; intro o ho; simp only [List.getElem?_toArray, List.getElem?_cons_zero, List.getElem?_cons_succ, Option.some.injEq] at ho; subst ho; refine ⟨?_, Or.inl ⟨by rfl, fun W hSW => ?_⟩, ?_⟩; rotate_left; (focus (go_simp; first | done | with_reducible rfl)); try simp only [Act.put, List.setIfInBounds_toArray, List.set_cons_zero, List.set_cons_succ])
      (refine wpSeq_mov rfl rfl ?_; intro o ho; simp only [List.getElem?_toArray, List.getElem?_cons_zero, List.getElem?_cons_succ, Option.some.injEq] at ho; subst ho; refine ⟨?_, Or.inl ⟨by rfl, fun W hSW => ?_⟩, ?_⟩; rotate_left; (focus (go_simp; first | done | with_reducible rfl)); try simp only [Act.put, List.setIfInBounds_toArray, List.set_cons_zero, List.set_cons_succ])
      (refine wpSeq_mov rfl rfl ?_; intro o ho; simp only [List.getElem?_toArray, List.getElem?_cons_zero, List.getElem?_cons_succ, Option.some.injEq] at ho; subst ho; refine ⟨?_, Or.inl ⟨by rfl, fun W hSW => ?_⟩, ?_⟩; rotate_left; (focus (go_simp; first | done | with_reducible rfl)); try simp only [Act.put, List.setIfInBounds_toArray, List.set_cons_zero, List.set_cons_succ])
      (refine wpSeq_mov rfl rfl ?_; intro o ho; simp only [List.getElem?_toArray, List.getElem?_cons_zero, List.getElem?_cons_succ, Option.some.injEq] at ho; subst ho; refine ⟨?_, Or.inl ⟨by rfl, fun W hSW => ?_⟩, ?_⟩; rotate_left; (focus (go_simp; first | done | with_reducible rfl)); try simp only [Act.put, List.setIfInBounds_toArray, List.set_cons_zero, List.set_cons_succ])
      refine wpSeq_done ?_
      go_wp2_with fail
      go_roundw
      case rel => exact ⟨k + 1, by omega, by go_num, HL.out.step (stepD1 _)⟩
      case measure => simp [intOf]; omega
    · have hlt' : ¬ ((k : Int) < (xs.length : Int)) := by omega
      go_wp2_with fail
      go_ret
      exact Ret.mk rfl HL.out.b

theorem shr_pow (n : Int) (k : Nat) : n >>> k = n / 2 ^ k := Int.shiftRight_eq_div_pow n k

set_option maxRecDepth 100000 in
set_option maxHeartbeats 1000000 in
theorem bits_any (n : Int) (m : Nat) (w : World) (h0 : 0 ≤ n) (h1 : n ≤ 9223372036854775807) (hm : m ≤ 63) :
    Calls Try.prog 36 #[.int .i64 n, .int .i64 m] w (RetB w (bitsG n m)) := by
  go_enter Try.func36, Try.ntmps36
  go_wp2_with fail
  go_loopw [5, 6] (fun v i wr => ∃ (k : Nat) (A' : Option Addr) (c' : Nat), k ≤ m ∧ v = .slice A' k c' ∧ i = .int .i64 k ∧ OwnF wr w.heap.size 4 1 (.slice A' k c') k (bools (bitsG n k)) ∧ Low w wr) (fun _ i _ => m - (intOf i).toNat)
  case atStart => exact ⟨0, none, 0, Nat.zero_le _, rfl, rfl, ⟨World.ownsRow_nil _ _ _ _⟩, Low.refl _⟩
  case round =>
    obtain ⟨k, A', c', hk, rfl, rfl, hown, hlow⟩ := hrel
    have HO := Lib.hid hown
    have HL := Lib.hid hlow
    obtain ⟨i0, hi0, hz0, hz1, hz2⟩ := info_parts boolInfo
    have hs := HL.out.size
    clear hown hlow
    by_cases hlt : k < m
    · have hlt' : (k : Int) < (m : Int) := by omega
      have hdn : 0 ≤ n / 2 ^ k := Int.ediv_nonneg h0 (Int.le_of_lt (Int.pow_pos (by omega)))
      have hdl : n / 2 ^ k ≤ n := Int.ediv_le_self _ h0
      have HE : Hid ((bits .and .i64 (n / 2 ^ k) 1 == 1) = decide (n / 2 ^ k % 2 = 1)) := by
        show (bits .and .i64 (n / 2 ^ k) 1 == 1) = _
        rw [and_one _ hdn (by omega), odd_beq]
      clear hdn hdl
      go_wp2_with (first | (at_builtin; refine wpList_append_vals _ rfl (.tmp 12) (.tmp 18) _ rfl w.heap.size 4 i0 _ 1 1 Try.underlying25 hi0 hz0 hz1 hz2 rfl (by omega) (.slice A' k c') k (bools (bitsG n k)) rfl (HO.out.p.alloc _) _ _ 1 1 [.bool (bits .and .i64 (n / 2 ^ k) 1 == 1)] rfl rfl (vals_new wr [.bool (bits .and .i64 (n / 2 ^ k) 1 == 1)] 4) (bools_one [_]) (by unfold maxLen; omega) (by omega) (by simp; omega) ?_; intro v5 w5 hown5 hg5; have HO5 := Lib.hid hown5; have HL5 := Lib.hid ((HL.out.step (stepA wr (.cells #[.bool (bits .and .i64 (n / 2 ^ k) 1 == 1)] 4))).grown hg5 (own_block HO.out.p)); clear hown5 hg5))
      go_roundw
      case rel =>
        obtain ⟨A6, c6, hv6, _⟩ := own_form HO5.out
        subst hv6
        refine ⟨k + 1, A6, c6, by omega, rfl, by go_num, ⟨?_⟩, HL5.out⟩
        rw [bitsG_succ, bools_snoc, ← HE.out]
        exact HO5.out
      case measure => simp [intOf]; omega
    · obtain rfl : k = m := by omega
      have hlt' : ¬ ((k : Int) < (k : Int)) := by omega
      go_wp2_with fail
      go_ret
      have hle : (bitsG n k).length = k := bitsG_length n k
      refine ⟨A', c', ?_, ?_, Vals.of_own HO.out.p, HL.out.b⟩
      · rw [hle]; rfl
      · rw [hle]; exact own_cap HO.out.p

def bt2 : List Bool := [true, true]
theorem al_g1 : allG g1 [true, true] = [false, true, true, true] := by rfl
theorem ev_g1 : evalG g1 6 [true, true] = true := by rfl
theorem ev_g1' : evalG g1 7 [true, true] = false := by rfl
theorem th_g1 : threeG g1 6 [0, 2] = 0 := by rfl
theorem th_g1' : threeG g1 7 [0, 2] = 1 := by rfl
theorem th_g1n : threeG g1 6 [] = 2 := by rfl

theorem vals4 {A : Option Addr} {w : World} {B : Nat} {a b c d : Bool} (h : Vals w B A (bools [a, b, c, d])) : ∃ b' o, A = some ⟨b', o, none⟩ ∧ w.cell? ⟨b', o, none⟩ = some (.bool a) ∧ w.cell? ⟨b', o + 3, none⟩ = some (.bool d) := by
  obtain ⟨b1, o1, e1, _, h1⟩ := h 0 _ rfl
  obtain ⟨b2, o2, e2, _, h2⟩ := h 3 _ rfl
  rw [e1] at e2
  cases e2
  exact ⟨b1, o1, e1, h1, h2⟩

set_option maxRecDepth 100000 in
set_option maxHeartbeats 2000000 in
theorem awake2_any (w : World) : Calls Try.prog 27 #[] w (Ret w (.bool true)) := by
  have hnot := @not_run Try.prog
  have n1 : g1.n = 2 := rfl
  have l1 : g1.as.length = 1 := rfl
  have HC1 := Lib.hid (fun (A : Option Addr) (W : World) (B : Option Addr) (hp : Prs W W.heap.size A g1.as) (hb : Vals W W.heap.size B (bools [true, true])) => eall_any g1 [true, true] A B 1 2 W g1_ok (by simp [g1]) hp (by simp) (by simp) hb)
  have HC2 := Lib.hid (fun (l : Int) (hl : l ≤ 9223372036854775807) (A : Option Addr) (W : World) (B : Option Addr) (hp : Prs W W.heap.size A g1.as) (hb : Vals W W.heap.size B (bools [true, true])) => eEval_any g1 l [true, true] A B 1 2 W g1_ok (by simp [g1]) hp (by simp) (by simp) hb hl)
  have HC3 := Lib.hid (fun (l : Int) (hl : l ≤ 9223372036854775807) (xs : List Int) (hx : xs.length ≤ 2) (A : Option Addr) (W : World) (B : Option Addr) (c : Nat) (hp : Prs W W.heap.size A g1.as) (hb : Vals W W.heap.size B (i64s xs)) => eThree_any g1 l xs A B 1 c W g1_ok (by simp [g1]) hp (by omega) hb hl)
  have HG : Hid (GBox ((w.alloc (.cells #[.int .i64 4, .int .i64 2] 41)).alloc (.cells #[.int .i64 2, .slice (some ⟨w.heap.size, 0, none⟩) 1 1] 24)) (w.heap.size + 1) g1 (some ⟨w.heap.size, 0, none⟩) 1) := by
    have h1 : Prs (w.alloc (.cells #[.int .i64 4, .int .i64 2] 41)) (w.alloc (.cells #[.int .i64 4, .int .i64 2] 41)).heap.size (some ⟨w.heap.size, 0, none⟩) g1.as := Prs.of_vals (vals_new' w [.int .i64 4, .int .i64 2] 41)
    have h2 := GBox.new (g := g1) (d := 1) (w := w.alloc (.cells #[.int .i64 4, .int .i64 2] 41)) (by simp [g1]) h1
    rw [World.size_alloc] at h2
    exact h2
  have HL := Lib.hid (((Low.refl w).step (stepA w (.cells #[.int .i64 4, .int .i64 2] 41))).step (stepA _ (.cells #[.int .i64 2, .slice (some ⟨w.heap.size, 0, none⟩) 1 1] 24)))
  have HV0 : Hid (Vals (((w.alloc (.cells #[.int .i64 4, .int .i64 2] 41)).alloc (.cells #[.int .i64 2, .slice (some ⟨w.heap.size, 0, none⟩) 1 1] 24)).alloc (.cells #[.bool true, .bool true] 4)) (((w.alloc (.cells #[.int .i64 4, .int .i64 2] 41)).alloc (.cells #[.int .i64 2, .slice (some ⟨w.heap.size, 0, none⟩) 1 1] 24)).alloc (.cells #[.bool true, .bool true] 4)).heap.size (some ⟨w.heap.size + 1 + 1, 0, none⟩) (bools [true, true])) := by
    have := vals_new' ((w.alloc (.cells #[.int .i64 4, .int .i64 2] 41)).alloc (.cells #[.int .i64 2, .slice (some ⟨w.heap.size, 0, none⟩) 1 1] 24)) [.bool true, .bool true] 4
    unfold Hid
    simpa [bools] using this
  go_enter Try.func27, Try.ntmps27
  go_wp2_with fail
  replace HG := Lib.hid (HG.out.step (stepA _ (.cells #[.bool true, .bool true] 4))); replace HL := Lib.hid (HL.out.step (stepA _ (.cells #[.bool true, .bool true] 4)))
  refine (HC1.out _ _ _ HG.out.prs HV0.out).mono ?_
  rintro e w1 ⟨A1, c1, rfl, hc1, hv1, hb⟩
  replace HG := Lib.hid (HG.out.step hb); replace HL := Lib.hid (HL.out.step hb)
  clear hb
  rw [al_g1] at hv1 ⊢
  obtain ⟨b1, o1, rfl, q0, q3⟩ := vals4 hv1
  clear hv1
  have c0 := HG.out.c0
  have c1 := HG.out.c1
  go_wp2_with fail
  replace HG := Lib.hid (HG.out.step (stepA _ (.cells #[.bool true, .bool true] 4))); replace HL := Lib.hid (HL.out.step (stepA _ (.cells #[.bool true, .bool true] 4)))
  refine (HC2.out 6 (by omega) _ _ _ HG.out.prs (vals_new' _ [.bool true, .bool true] _)).mono ?_
  rintro e w2 ⟨rfl, hb⟩
  replace HG := Lib.hid (HG.out.step hb); replace HL := Lib.hid (HL.out.step hb)
  rw [ev_g1]
  clear hb q0 q3
  replace c0 := HG.out.c0
  replace c1 := HG.out.c1
  go_wp2_with fail
  replace HG := Lib.hid (HG.out.step (stepA _ (.cells #[.bool true, .bool true] 4))); replace HL := Lib.hid (HL.out.step (stepA _ (.cells #[.bool true, .bool true] 4)))
  refine (HC2.out 7 (by omega) _ _ _ HG.out.prs (vals_new' _ [.bool true, .bool true] _)).mono ?_
  rintro e w3 ⟨rfl, hb⟩
  replace HG := Lib.hid (HG.out.step hb); replace HL := Lib.hid (HL.out.step hb)
  rw [ev_g1']
  clear hb
  replace c0 := HG.out.c0
  replace c1 := HG.out.c1
  go_wp2_with fail
  replace HG := Lib.hid (HG.out.step (stepA _ (.cells #[.int .i64 0, .int .i64 2] 3))); replace HL := Lib.hid (HL.out.step (stepA _ (.cells #[.int .i64 0, .int .i64 2] 3)))
  refine (HC3.out 6 (by omega) [0, 2] (by simp) _ _ _ 2 HG.out.prs (vals_new' _ [.int .i64 0, .int .i64 2] _)).mono ?_
  rintro e w4 ⟨rfl, hb⟩
  replace HG := Lib.hid (HG.out.step hb); replace HL := Lib.hid (HL.out.step hb)
  rw [th_g1]
  clear hb
  replace c0 := HG.out.c0
  replace c1 := HG.out.c1
  go_wp2_with fail
  replace HG := Lib.hid (HG.out.step (stepA _ (.cells #[.int .i64 0, .int .i64 2] 3))); replace HL := Lib.hid (HL.out.step (stepA _ (.cells #[.int .i64 0, .int .i64 2] 3)))
  refine (HC3.out 7 (by omega) [0, 2] (by simp) _ _ _ 2 HG.out.prs (vals_new' _ [.int .i64 0, .int .i64 2] _)).mono ?_
  rintro e w5 ⟨rfl, hb⟩
  replace HG := Lib.hid (HG.out.step hb); replace HL := Lib.hid (HL.out.step hb)
  rw [th_g1']
  clear hb
  replace c0 := HG.out.c0
  replace c1 := HG.out.c1
  go_wp2_with fail
  refine (HC3.out 6 (by omega) [] (by simp) _ _ none 0 HG.out.prs Vals.nil).mono ?_
  rintro e w6 ⟨rfl, hb⟩
  replace HL := Lib.hid (HL.out.step hb)
  rw [th_g1n]
  clear hb c0 c1
  go_wp2_with fail
  go_ret
  exact ⟨rfl, HL.out.b⟩
end Go.Proofs.Ytbdhkagcbncefaa
