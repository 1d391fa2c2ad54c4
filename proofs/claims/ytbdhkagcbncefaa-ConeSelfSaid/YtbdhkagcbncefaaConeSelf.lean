/- ConeSelf's walk. -/
import Derived.Test.YtbdhkagcbncefaaG6
set_option linter.unusedVariables false
set_option linter.unusedSimpArgs false
namespace Go.Proofs.Ytbdhkagcbncefaa
open Go.RowKit Go.Maps

set_option maxRecDepth 100000 in
set_option maxHeartbeats 4000000 in
theorem coneSelf_any (n : Int) (xs : List Int) (A : Option Addr) (cp : Nat) (a : Int) (w : World) (hn : 0 ≤ n ∧ n ≤ 255) (hx : U16 xs) (hcp : xs.length ≤ cp) (hcl : cp ≤ 70368744177664) (hp : Vals w w.heap.size A (u16s xs)) (ha : 0 ≤ a ∧ a ≤ 255) :
    Calls Try.prog 25 #[.int .u8 n, .slice A xs.length cp, .int .u8 a] w (Ret w (.bool true)) := by
  have hnot := @not_run Try.prog
  have HM := Lib.hid (fun (w1 : World) (h : Below w.heap.size w w1) => made_any (n % 7) xs A cp w1 (by omega) (by omega) hx (by omega) (hp.after h))
  have HI := Lib.hid (madeG_inv (n := n % 7) (by omega) (by omega) xs)
  generalize madeG (n % 7) xs = s at HM HI
  have n0 : 0 ≤ s.1.n := by rw [HI.out.n]; omega
  have n1 : s.1.n ≤ 6 := by rw [HI.out.n]; omega
  have l1 : s.1.as.length ≤ 40 := HI.out.len
  obtain ⟨N, hN⟩ : ∃ N : Nat, s.1.n = (N : Int) := ⟨s.1.n.toNat, by omega⟩
  have HN := Lib.hid hN
  have hN6 : N ≤ 6 := by omega
  have hll := lit_lt HI.out.lit
  have hl1 : s.2 ≤ 9223372036854775807 := by unfold Gr.vars at hll; omega
  clear hN hll
  have hmz : (2 * (s.1.n + 1 + (s.1.as.length : Int)) == 0) = false := by simp; omega
  have hM0 : 0 < 2 * (s.1.n + 1 + (s.1.as.length : Int)) := by omega
  obtain ⟨x, hxe⟩ : ∃ x, x = a % (2 * (s.1.n + 1 + (s.1.as.length : Int))) := ⟨_, rfl⟩
  have lx : litB s.1 x = true := lit_of HI.out.right (by rw [hxe]; exact Int.emod_nonneg _ (by omega)) (by rw [hxe]; exact Int.emod_lt_of_pos _ hM0)
  have x0 : 0 ≤ x := litB_ge lx
  have x1 : x ≤ 9223372036854775807 := by have := lit_lt lx; unfold Gr.vars at this; omega
  have hnN : s.1.n.toNat = N := by have := HN.out; omega
  have hcs := copyG_self HI.out.right lx
  rw [hnN] at hcs
  have hev : ∀ y ∈ evens N, y ≤ 9223372036854775807 := by
    intro y hy
    unfold evens at hy
    obtain ⟨i, hi, rfl⟩ := List.mem_map.1 hy
    have := List.mem_range.1 hi
    omega
  have HC := Lib.hid (fun (B I : Option Addr) (d ci : Nat) (W : World) (h1 : s.1.as.length ≤ d) (h2 : Prs W W.heap.size B s.1.as) (h3 : Vals W W.heap.size I (i64s (evens N))) => ccopy_any s.1 s.1 x (evens N) B B I d d ci W HI.out.ok HI.out.ok x1 h1 h2 h2 hev (by rw [evens_length]; omega) h3)
  rw [hcs, evens_length] at HC
  have hxe' := hxe.symm
  clear hx hp hxe hcs hev hnN
  go_enter Try.func25, Try.ntmps25
  go_wp2_with fail
  refine (awake3_any _).mono ?_
  rintro e w0 ⟨rfl, hb⟩
  have HL := Lib.hid ((Low.refl w).step hb)
  clear hb
  go_wp2_with fail
  refine (HM.out w0 HL.out.b).mono ?_
  rintro e w1 ⟨B, d, rfl, hc1, hp1, hb⟩
  replace HL := Lib.hid (HL.out.step hb)
  replace HL := Lib.hid (HL.out.step (stepA w1 (.cells #[.int .i64 s.1.n, .slice B s.1.as.length d] 24)))
  have HG := Lib.hid (GBox.new hc1 hp1)
  clear hb hp1 hc1 HM
  have c0 := HG.out.c0
  have c1 := HG.out.c1
  go_wp2_with fail
  refine (rvars_any _ _ _ _ _ n0 (by omega) (by omega)).mono ?_
  rintro e w2 ⟨rfl, hb⟩
  replace HL := Lib.hid (HL.out.step hb); replace HG := Lib.hid (HG.out.step hb)
  clear hb c0 c1
  obtain ⟨i0, hi0, hz0, hz1, hz2⟩ := info_parts intInfo
  go_wp2_with fail
  rw [hxe']
  go_loopw [11, 12] (fun v i wr => ∃ (k : Nat) (I : Option Addr) (ci : Nat), k ≤ N ∧ v = .slice I k ci ∧ i = .int .i64 ((k : Int) + 1) ∧ OwnF wr w2.heap.size 3 1 (.slice I k ci) k (i64s (evens k)) ∧ Low w2 wr) (fun _ i _ => (N + 1 - (intOf i).toNat))
  case atStart => exact ⟨0, none, 0, Nat.zero_le _, rfl, rfl, ⟨World.ownsRow_nil _ _ _ _⟩, Low.refl _⟩
  case round =>
    obtain ⟨k, I, ci, hk, rfl, rfl, hown, hlow⟩ := hrel
    have HO := Lib.hid hown
    have HW := Lib.hid hlow
    have HGk := Lib.hid (HG.out.step hlow.b)
    have HLk := Lib.hid (HL.out.step hlow.b)
    have hsz := hlow.size
    clear hown hlow
    have c0 := HGk.out.c0
    have c1 := HGk.out.c1
    by_cases hlt : k < N
    · have hlt' : (k : Int) + 1 ≤ s.1.n := by have := HN.out; omega
      have hwm : IntKind.i64.wrap (2 * ((k : Int) + 1)) = 2 * ((k : Int) + 1) := IntWalk.i64_in _ (by omega)
      have HSN := Lib.hid (evens_succ k)
      go_wp2_with ((at_builtin; go_loud (refine wpList_append_vals _ rfl (.tmp 39) (.tmp 42) _ rfl w2.heap.size 3 i0 _ 1 8 Try.underlying26 hi0 hz0 hz1 hz2 rfl (by omega) (.slice I k ci) k (i64s (evens k)) rfl (HO.out.p.alloc _) _ _ 1 1 [.int .i64 (2 * ((k : Int) + 1))] rfl rfl (vals_new wr [.int .i64 (2 * ((k : Int) + 1))] 3) (i64s_one [2 * ((k : Int) + 1)]) (by unfold maxLen; omega) (by omega) (by simp; omega) ?_); intro v5 w5 hown5 hg5; have HO5 := Lib.hid hown5; have HW5 := Lib.hid ((HW.out.step (stepA wr (.cells #[.int .i64 (2 * ((k : Int) + 1))] 3))).grown hg5 (own_block HO.out.p)); clear hown5 hg5))
      go_roundw
      case rel =>
        obtain ⟨A6, c6, hv6, _⟩ := own_form HO5.out
        subst hv6
        exact ⟨k + 1, A6, c6, by omega, rfl, by go_num, ⟨by rw [HSN.out, i64s_append]; exact HO5.out⟩, HW5.out⟩
      case measure => simp [intOf]; omega
    · have hkN : k = N := by omega
      have hlt' : ¬ ((k : Int) + 1 ≤ s.1.n) := by have := HN.out; omega
      have HV := Lib.hid (Vals.of_own HO.out.p)
      rw [← hkN] at HC
      have HCC := Lib.hid (HC.out B I d ci _ HGk.out.cap HGk.out.prs HV.out)
      clear hkN
      go_wp2_with fail
      refine HCC.out.mono ?_
      rintro e w3 ⟨B3, d3, rfl, hc3, hp3, hb⟩
      simp only at hc3 hp3 ⊢
      replace HLk := Lib.hid (HLk.out.step hb); replace HGk := Lib.hid (HGk.out.step hb)
      replace HLk := Lib.hid (HLk.out.step (stepA w3 (.cells #[.int .i64 s.1.n, .slice B3 s.1.as.length d3] 24))); replace HGk := Lib.hid (HGk.out.step (stepA w3 (.cells #[.int .i64 s.1.n, .slice B3 s.1.as.length d3] 24)))
      have HH := Lib.hid (GBox.new hc3 hp3)
      clear hb hp3 c0 c1
      have c0 := HGk.out.c0
      have c1 := HGk.out.c1
      have e0 := HH.out.c0
      have e1 := HH.out.c1
      go_wp2_with fail
      refine (same_any s.1 B B3 d d3 _ (by omega) HGk.out.prs HH.out.prs).mono ?_
      rintro e w4 ⟨rfl, hb⟩
      go_wp2_with fail
      go_ret
      exact ⟨rfl, (HLk.out.step hb).b⟩
end Go.Proofs.Ytbdhkagcbncefaa
