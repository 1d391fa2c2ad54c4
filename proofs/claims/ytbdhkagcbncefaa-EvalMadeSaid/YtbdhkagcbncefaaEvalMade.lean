/- EvalMade's walk. -/
import Derived.Test.YtbdhkagcbncefaaLaw2
import Derived.Test.YtbdhkagcbncefaaPLaw2
set_option linter.unusedVariables false
set_option linter.unusedSimpArgs false
namespace Go.Proofs.Ytbdhkagcbncefaa
open Go.RowKit Go.Maps

set_option maxRecDepth 100000 in
set_option maxHeartbeats 4000000 in
theorem evalMade_any (n : Int) (xs : List Int) (A : Option Addr) (cp : Nat) (i t : Int) (w : World) (hn : 0 ≤ n ∧ n ≤ 255) (hx : U16 xs) (hcp : xs.length ≤ cp) (hcl : cp ≤ 70368744177664) (hp : Vals w w.heap.size A (u16s xs)) (hi : 0 ≤ i ∧ i ≤ 255) (ht : 0 ≤ t ∧ t ≤ 65535) :
    Calls Try.prog 4 #[.int .u8 n, .slice A xs.length cp, .int .u8 i, .int .u16 t] w (Ret w (.bool true)) := by
  have hnot := @not_run Try.prog
  have HM := Lib.hid (fun (w1 : World) (h : Below w.heap.size w w1) => made_any (n % 7) xs A cp w1 (by omega) (by omega) hx (by omega) (hp.after h))
  have HI := Lib.hid (madeG_inv (n := n % 7) (by omega) (by omega) xs)
  generalize madeG (n % 7) xs = s at HM HI
  have n0 : 0 ≤ s.1.n := by rw [HI.out.n]; omega
  have n1 : s.1.n ≤ 6 := by rw [HI.out.n]; omega
  have l1 : s.1.as.length ≤ 40 := HI.out.len
  obtain ⟨N, hN⟩ : ∃ N : Nat, s.1.n = (N : Int) := ⟨s.1.n.toNat, by omega⟩
  have HN := Lib.hid hN
  have hN6 : N ≤ 6 := by omega
  have hll := lit_lt HI.out.lit
  have hl1 : s.2 ≤ 9223372036854775807 := by unfold Gr.vars at hll; omega
  clear hN hll
  go_enter Try.func4, Try.ntmps4
  go_wp2_with fail
  have HL := Lib.hid (Low.refl w)
  refine (HM.out w HL.out.b).mono ?_
  rintro e w1 ⟨B, d, rfl, hc1, hp1, hb⟩
  replace HL := Lib.hid (HL.out.step hb)
  replace HL := Lib.hid (HL.out.step (stepA w1 (.cells #[.int .i64 s.1.n, .slice B s.1.as.length d] 24)))
  have HG := Lib.hid (GBox.new hc1 hp1)
  clear hb hp1 hc1 HM
  have c0 := HG.out.c0
  have c1 := HG.out.c1
  go_wp2_with fail
  have HBT : Hid (∀ W : World, Calls Try.prog 36 #[.int .i64 i, .int .i64 s.1.n] W (RetB W (bitsG i N))) := fun W => by rw [HN.out]; exact bits_any i N W (by omega) (by omega) (by omega)
  have HXx : Hid ((bitsG i N).length = N) := bitsG_length _ _
  generalize bitsG i N = x at HBT HXx
  refine (HBT.out _).mono ?_
  rintro e w2 ⟨X, kx, rfl, hkx, hv, hb⟩
  replace HL := Lib.hid (HL.out.step hb); replace HG := Lib.hid (HG.out.step hb)
  have HVx : Hid (ValsF w2 X (bools x)) := ⟨hv⟩
  clear hb hv HBT
  rw [HXx.out]
  replace c0 := HG.out.c0
  replace c1 := HG.out.c1
  go_wp2_with fail
  clear c0 c1
  obtain ⟨i0, hi0, hz0, hz1, hz2⟩ := info_parts intInfo
  go_loopw [12, 13] (fun y j wr => ∃ (k : Nat) (Y : Option Addr) (cy : Nat), k ≤ N ∧ y = .slice Y k cy ∧ j = .int .i64 k ∧ OwnF wr w2.heap.size 3 1 (.slice Y k cy) k (i64s (digG t 4 k)) ∧ Low w2 wr) (fun _ j _ => N - (intOf j).toNat)
  case atStart => exact ⟨0, none, 0, Nat.zero_le _, rfl, rfl, ⟨World.ownsRow_nil _ _ _ _⟩, Low.refl _⟩
  case round =>
    obtain ⟨k, Y, cy, hk, rfl, rfl, hoy, hlow⟩ := hrel
    have HOY := Lib.hid hoy
    have HW := Lib.hid hlow
    clear hoy hlow
    have HGk := Lib.hid (HG.out.step HW.out.b)
    have c0 := HGk.out.c0
    have c1 := HGk.out.c1
    have hs := HW.out.size
    by_cases hlt : k < N
    · have hlt' : (k : Int) < s.1.n := by rw [HN.out]; omega
      have hltN : (k : Int) < (N : Int) := by omega
      have hdn : 0 ≤ t / 2 ^ (2 * k) := Int.ediv_nonneg (by omega) (Int.le_of_lt (Int.pow_pos (by omega)))
      have HSY : Hid (i64s (digG t 4 (k + 1)) = i64s (digG t 4 k) ++ [.int .i64 (t / 2 ^ (2 * k) % 4)]) := by
        show i64s (digG t 4 (k + 1)) = _
        rw [digG_succ, i64s_snoc]
      go_wp2_with (at_builtin; refine wpList_append_own_at (o := ⟨some 42, _, _, _, _, _⟩) _ rfl (.tmp 34) (.tmp 41) _ rfl w2.heap.size 3 i0 _ 1 8 Try.underlying26 hi0 hz0 hz1 hz2 rfl (by omega) (.slice Y k cy) k (i64s (digG t 4 k)) rfl (HOY.out.p.alloc _) _ 1 1 [.int .i64 (t / 2 ^ (2 * k) % 4)] rfl rfl (cells_new wr [.int .i64 (t / 2 ^ (2 * k) % 4)] 3) (i64s_one [(t / 2 ^ (2 * k) % 4)]) (by unfold maxLen; omega) (by omega) (by simp; omega) ?_; intro v5 w5 hown5 hg5 _ hat5; obtain ⟨Y5, cy5, rfl, hcy5⟩ := own_form hown5; have HOY5 := Lib.hid hown5; have HW5 := Lib.hid ((HW.out.step (stepA wr (.cells #[.int .i64 (t / 2 ^ (2 * k) % 4)] 3))).grown hg5 (own_block HOY.out.p)); clear hown5 hg5 hat5 hcy5)
      go_roundw
      case rel =>
        refine ⟨k + 1, Y5, cy5, by omega, rfl, by go_num, ⟨?_⟩, HW5.out⟩
        rw [HSY.out]
        exact HOY5.out
      case measure => simp [intOf]; omega
    · obtain rfl : k = N := by omega
      have hlt' : ¬ ((k : Int) < s.1.n) := by rw [HN.out]; omega
      have hyl : (digG t 4 k).length = k := digG_length _ _ _
      have HVY : Hid (ValsF wr Y (i64s (digG t 4 k))) := ⟨Vals.of_own HOY.out.p⟩
      have HVX := Lib.hid (HVx.out.step HW.out.b)
      have HC1 : Hid (∀ (l : Int), l ≤ 9223372036854775807 → ∀ W : World, Low wr W → Calls Try.prog 31 #[.agg #[.int .i64 s.1.n, .slice B s.1.as.length d], .int .i64 l, .slice X k kx] W (Ret W (.bool (evalG s.1 l x)))) := fun l hl W h => by
        have := eEval_any s.1 l x B X d kx W HI.out.ok HGk.out.cap (HGk.out.step h.b).prs hkx (by rw [HXx.out]; omega) (HVX.out.step h.b).p hl
        rw [HXx.out] at this
        exact this
      have HC2 : Hid (∀ (l : Int), l ≤ 9223372036854775807 → ∀ W : World, Low wr W → Calls Try.prog 32 #[.agg #[.int .i64 s.1.n, .slice B s.1.as.length d], .int .i64 l, .slice X k kx] W (Ret W (.bool (evalG s.1 l x)))) := fun l hl W h => by
        have := reval_any s.1 l x B X d kx W HI.out.ok HGk.out.cap (HGk.out.step h.b).prs hkx (by rw [HXx.out]; omega) (HVX.out.step h.b).p hl
        rw [HXx.out] at this
        exact this
      have HC3 : Hid (∀ (l : Int), l ≤ 9223372036854775807 → ∀ W : World, Low wr W → Calls Try.prog 33 #[.agg #[.int .i64 s.1.n, .slice B s.1.as.length d], .int .i64 l, .slice Y k cy] W (Ret W (.int .i64 (threeG s.1 l (digG t 4 k))))) := fun l hl W h => by
        have := eThree_any s.1 l (digG t 4 k) B Y d cy W HI.out.ok HGk.out.cap (HGk.out.step h.b).prs (by omega) (HVY.out.step h.b).p hl
        rw [hyl] at this
        exact this
      have HC4 : Hid (∀ (l : Int), l ≤ 9223372036854775807 → ∀ W : World, Low wr W → Calls Try.prog 34 #[.agg #[.int .i64 s.1.n, .slice B s.1.as.length d], .int .i64 l, .slice Y k cy] W (Ret W (.int .i64 (threeG s.1 l (digG t 4 k))))) := fun l hl W h => by
        have := rThree_any s.1 l (digG t 4 k) B Y d cy W HI.out.ok HGk.out.cap (HGk.out.step h.b).prs (by omega) (HVY.out.step h.b).p hl
        rw [hyl] at this
        exact this
      have HC5 : Hid (∀ W : World, Low wr W → Calls Try.prog 29 #[.agg #[.int .i64 s.1.n, .slice B s.1.as.length d], .slice X k kx] W (RetB W (allG s.1 x))) := fun W h => by
        have := eall_any s.1 x B X d kx W HI.out.ok HGk.out.cap (HGk.out.step h.b).prs hkx (by rw [HXx.out]; omega) (HVX.out.step h.b).p
        rw [HXx.out] at this
        exact this
      have HC6 : Hid (∀ W : World, Low wr W → Calls Try.prog 30 #[.agg #[.int .i64 s.1.n, .slice B s.1.as.length d], .slice X k kx] W (RetB W (allG s.1 x))) := fun W h => by
        have := rall_any s.1 x B X d kx W HI.out.ok HGk.out.cap (HGk.out.step h.b).prs hkx (by rw [HXx.out]; omega) (HVX.out.step h.b).p
        rw [HXx.out] at this
        exact this
      have hvl : (allG s.1 x).length ≤ 140737488355328 := by
        have := allG_length_le s.1 x
        rw [HXx.out] at this
        omega
      generalize allG s.1 x = v at hvl HC5 HC6
      clear hyl hlt
      go_wp2_with fail
      clear c0 c1 hs
      obtain ⟨wo, rfl⟩ : ∃ wo : World, wo = wr := ⟨_, rfl⟩
      go_loopw [14] (fun j wr => ∃ q : Int, -1 ≤ q ∧ q ≤ 2 * (s.1.n + 1 + (s.1.as.length : Int)) + 1 ∧ j = .int .i64 q ∧ Low wo wr) (fun j _ => (2 * (s.1.n + 1 + (s.1.as.length : Int)) + 1 - intOf j).toNat)
      case atStart => exact ⟨-1, by omega, by omega, rfl, Low.refl _⟩
      case round =>
        obtain ⟨q, hq0, hq1, rfl, hlow⟩ := hrel
        have HR := Lib.hid hlow
        have c0 := (HGk.out.step HR.out.b).c0
        have c1 := (HGk.out.step HR.out.b).c1
        clear hlow
        go_wp2_with fail
        refine (rvars_any _ _ _ _ _ n0 (by omega) (by omega)).mono ?_
        rintro e w6 ⟨rfl, hb⟩
        replace HR := Lib.hid (HR.out.step hb)
        replace c0 := (HGk.out.step HR.out.b).c0
        replace c1 := (HGk.out.step HR.out.b).c1
        clear hb
        by_cases hle : q ≤ 2 * (s.1.n + 1 + (s.1.as.length : Int))
        · have HD1 := Lib.hid (HC1.out q (by omega))
          have HD2 := Lib.hid (HC2.out q (by omega))
          have HD3 := Lib.hid (HC3.out q (by omega))
          have HD4 := Lib.hid (HC4.out q (by omega))
          generalize evalG s.1 q x = y1 at HD1 HD2
          generalize threeG s.1 q (digG t 4 k) = y3 at HD3 HD4
          go_wp2_with fail
          refine wp_region_noPanic ?_
          refine wp_region_seq (fun W => W.cell? ⟨w1.heap.size, 0, none⟩ = some (.int .i64 s.1.n) ∧ W.cell? ⟨w1.heap.size, 1, none⟩ = some (.slice B s.1.as.length d) ∧ Low wo W) [0, 1, 2, 4, 5, 6, 3, 7, 8, 9, 10, 11, 12, 14, 15, 16, 13, 17, 18, 19] [0, 1, 2, 4, 5, 6, 8, 9, 10, 11, 12, 14, 15, 16, 18, 19] [] (by kernel_rfl) (by kernel_rfl) rfl (by kernel_rfl) (by kernel_rfl) (fun _ _ _ _ _ h => h) ?_ (fun hSS => ?_)
          · exact ⟨c0, c1, HR.out.step (stepD1 _)⟩
          replace HR := Lib.hid (HR.out.step (stepD1 _))
          clear c0 c1 hSS
          (refine wpSeq_mov rfl rfl ?_; intro o ho; simp only [List.getElem?_toArray, List.getElem?_cons_zero, List.getElem?_cons_succ, Option.some.injEq] at ho; subst ho; refine ⟨?_, Or.inl ⟨by rfl, fun W hSW => ?_⟩, ?_⟩; rotate_left; (focus (go_simp; first | done | with_reducible rfl)); try simp only [Act.put, List.setIfInBounds_toArray, List.set_cons_zero, List.set_cons_succ])
          (refine wpSeq_mov rfl rfl ?_; intro o ho; simp only [List.getElem?_toArray, List.getElem?_cons_zero, List.getElem?_cons_succ, Option.some.injEq] at ho; subst ho; refine ⟨?_, Or.inl ⟨by rfl, fun W hSW => ?_⟩, ?_⟩; rotate_left; (focus (go_simp; first | done | with_reducible rfl)); try simp only [Act.put, List.setIfInBounds_toArray, List.set_cons_zero, List.set_cons_succ])
          (refine wpSeq_mov rfl rfl ?_; intro o ho; simp only [List.getElem?_toArray, List.getElem?_cons_zero, List.getElem?_cons_succ, Option.some.injEq] at ho; subst ho; refine ⟨?_, Or.inl ⟨by rfl, fun W hSW => ?_⟩, ?_⟩; rotate_left; (focus (go_simp; first | done | with_reducible rfl)); try simp only [Act.put, List.setIfInBounds_toArray, List.set_cons_zero, List.set_cons_succ])
          (refine wpSeq_mov rfl rfl ?_; intro o ho; simp only [List.getElem?_toArray, List.getElem?_cons_zero, List.getElem?_cons_succ, Option.some.injEq] at ho; subst ho; refine ⟨?_, Or.inl ⟨by rfl, fun W hSW => ?_⟩, ?_⟩; rotate_left; (focus (go_simp; first | done | with_reducible rfl)); try simp only [Act.put, List.setIfInBounds_toArray, List.set_cons_zero, List.set_cons_succ])
          (refine wpSeq_mov rfl rfl ?_; intro o ho; simp only [List.getElem?_toArray, List.getElem?_cons_zero, List.getElem?_cons_succ, Option.some.injEq] at ho; subst ho; refine ⟨?_, Or.inl ⟨by rfl, fun W hSW => ?_⟩, ?_⟩; rotate_left; (focus (go_simp; first | done | with_reducible rfl)); try simp only [Act.put, List.setIfInBounds_toArray, List.set_cons_zero, List.set_cons_succ])
          (refine wpSeq_mov rfl rfl ?_; intro o ho; simp only [List.getElem?_toArray, List.getElem?_cons_zero, List.getElem?_cons_succ, Option.some.injEq] at ho; subst ho; refine ⟨?_, Or.inl ⟨by rfl, fun W hSW => ?_⟩, ?_⟩; rotate_left; (focus (go_simp; first | done | with_reducible rfl)); try simp only [Act.put, List.setIfInBounds_toArray, List.set_cons_zero, List.set_cons_succ])
          (refine wpSeq_fix rfl rfl ?_; intro o ho; simp only [List.getElem?_toArray, List.getElem?_cons_zero, List.getElem?_cons_succ, Option.some.injEq] at ho; subst ho; intro K hK)
          go_simp
          refine (HD1.out _ HR.out).mono ?_
          rintro e w7 ⟨rfl, hb⟩
          replace HR := Lib.hid (HR.out.step hb)
          clear hb
          (refine hK.out _ _ (fun _ => ⟨(HGk.out.step HR.out.b).c0, (HGk.out.step HR.out.b).c1, HR.out⟩) ?_; clear hK K; try simp only [Act.put, List.setIfInBounds_toArray, List.set_cons_zero, List.set_cons_succ])
          (refine wpSeq_fix rfl rfl ?_; intro o ho; simp only [List.getElem?_toArray, List.getElem?_cons_zero, List.getElem?_cons_succ, Option.some.injEq] at ho; subst ho; intro K hK)
          go_simp
          refine (HD2.out _ HR.out).mono ?_
          rintro e w8 ⟨rfl, hb⟩
          replace HR := Lib.hid (HR.out.step hb)
          clear hb
          (refine hK.out _ _ (fun _ => ⟨(HGk.out.step HR.out.b).c0, (HGk.out.step HR.out.b).c1, HR.out⟩) ?_; clear hK K; try simp only [Act.put, List.setIfInBounds_toArray, List.set_cons_zero, List.set_cons_succ])
          (refine wpSeq_mov rfl rfl ?_; intro o ho; simp only [List.getElem?_toArray, List.getElem?_cons_zero, List.getElem?_cons_succ, Option.some.injEq] at ho; subst ho; refine ⟨?_, Or.inl ⟨by rfl, fun W hSW => ?_⟩, ?_⟩; rotate_left; (focus (go_simp; first | done | with_reducible rfl)); try simp only [Act.put, List.setIfInBounds_toArray, List.set_cons_zero, List.set_cons_succ])
          (refine wpSeq_mov rfl rfl ?_; intro o ho; simp only [List.getElem?_toArray, List.getElem?_cons_zero, List.getElem?_cons_succ, Option.some.injEq] at ho; subst ho; refine ⟨?_, Or.inl ⟨by rfl, fun W hSW => ?_⟩, ?_⟩; rotate_left; (focus (go_simp; first | done | with_reducible rfl)); try simp only [Act.put, List.setIfInBounds_toArray, List.set_cons_zero, List.set_cons_succ])
          (refine wpSeq_mov rfl rfl ?_; intro o ho; simp only [List.getElem?_toArray, List.getElem?_cons_zero, List.getElem?_cons_succ, Option.some.injEq] at ho; subst ho; refine ⟨?_, Or.inl ⟨by rfl, fun W hSW => ?_⟩, ?_⟩; rotate_left; (focus (go_simp; first | done | with_reducible rfl)); try simp only [Act.put, List.setIfInBounds_toArray, List.set_cons_zero, List.set_cons_succ])
          (refine wpSeq_mov rfl rfl ?_; intro o ho; simp only [List.getElem?_toArray, List.getElem?_cons_zero, List.getElem?_cons_succ, Option.some.injEq] at ho; subst ho; refine ⟨?_, Or.inl ⟨by rfl, fun W hSW => ?_⟩, ?_⟩; rotate_left; (focus (go_simp; first | done | with_reducible rfl)); try simp only [Act.put, List.setIfInBounds_toArray, List.set_cons_zero, List.set_cons_succ])
          (refine wpSeq_mov rfl rfl ?_; intro o ho; simp only [List.getElem?_toArray, List.getElem?_cons_zero, List.getElem?_cons_succ, Option.some.injEq] at ho; subst ho; refine ⟨?_, Or.inl ⟨by rfl, fun W hSW => ?_⟩, ?_⟩; rotate_left; (focus (go_simp; first | done | with_reducible rfl)); try simp only [Act.put, List.setIfInBounds_toArray, List.set_cons_zero, List.set_cons_succ])
          (refine wpSeq_mov rfl rfl ?_; intro o ho; simp only [List.getElem?_toArray, List.getElem?_cons_zero, List.getElem?_cons_succ, Option.some.injEq] at ho; subst ho; refine ⟨?_, Or.inl ⟨by rfl, fun W hSW => ?_⟩, ?_⟩; rotate_left; (focus (go_simp; first | done | with_reducible rfl)); try simp only [Act.put, List.setIfInBounds_toArray, List.set_cons_zero, List.set_cons_succ])
          (refine wpSeq_mov rfl rfl ?_; intro o ho; simp only [List.getElem?_toArray, List.getElem?_cons_zero, List.getElem?_cons_succ, Option.some.injEq] at ho; subst ho; refine ⟨?_, Or.inl ⟨by rfl, fun W hSW => ?_⟩, ?_⟩; rotate_left; (focus (go_simp; first | done | with_reducible rfl)); try simp only [Act.put, List.setIfInBounds_toArray, List.set_cons_zero, List.set_cons_succ])
          (refine wpSeq_mov rfl rfl ?_; intro o ho; simp only [List.getElem?_toArray, List.getElem?_cons_zero, List.getElem?_cons_succ, Option.some.injEq] at ho; subst ho; refine ⟨?_, Or.inl ⟨by rfl, fun W hSW => ?_⟩, ?_⟩; rotate_left; (focus (go_simp; first | done | with_reducible rfl)); try simp only [Act.put, List.setIfInBounds_toArray, List.set_cons_zero, List.set_cons_succ])
          (refine wpSeq_fix rfl rfl ?_; intro o ho; simp only [List.getElem?_toArray, List.getElem?_cons_zero, List.getElem?_cons_succ, Option.some.injEq] at ho; subst ho; intro K hK)
          go_simp
          refine (HD3.out _ HR.out).mono ?_
          rintro e w9 ⟨rfl, hb⟩
          replace HR := Lib.hid (HR.out.step hb)
          clear hb
          (refine hK.out _ _ (fun _ => ⟨(HGk.out.step HR.out.b).c0, (HGk.out.step HR.out.b).c1, HR.out⟩) ?_; clear hK K; try simp only [Act.put, List.setIfInBounds_toArray, List.set_cons_zero, List.set_cons_succ])
          (refine wpSeq_fix rfl rfl ?_; intro o ho; simp only [List.getElem?_toArray, List.getElem?_cons_zero, List.getElem?_cons_succ, Option.some.injEq] at ho; subst ho; intro K hK)
          go_simp
          refine (HD4.out _ HR.out).mono ?_
          rintro e w10 ⟨rfl, hb⟩
          replace HR := Lib.hid (HR.out.step hb)
          clear hb
          (refine hK.out _ _ (fun _ => ⟨(HGk.out.step HR.out.b).c0, (HGk.out.step HR.out.b).c1, HR.out⟩) ?_; clear hK K; try simp only [Act.put, List.setIfInBounds_toArray, List.set_cons_zero, List.set_cons_succ])
          (refine wpSeq_mov rfl rfl ?_; intro o ho; simp only [List.getElem?_toArray, List.getElem?_cons_zero, List.getElem?_cons_succ, Option.some.injEq] at ho; subst ho; refine ⟨?_, Or.inl ⟨by rfl, fun W hSW => ?_⟩, ?_⟩; rotate_left; (focus (go_simp; first | done | with_reducible rfl)); try simp only [Act.put, List.setIfInBounds_toArray, List.set_cons_zero, List.set_cons_succ])
          (refine wpSeq_mov rfl rfl ?_; intro o ho; simp only [List.getElem?_toArray, List.getElem?_cons_zero, List.getElem?_cons_succ, Option.some.injEq] at ho; subst ho; refine ⟨?_, Or.inl ⟨by rfl, fun W hSW => ?_⟩, ?_⟩; rotate_left; (focus (go_simp; first | done | with_reducible rfl)); try simp only [Act.put, List.setIfInBounds_toArray, List.set_cons_zero, List.set_cons_succ])
          refine wpSeq_done ?_
          go_wp2_with fail
          go_roundw
          case rel => exact ⟨q + 1, by omega, by omega, rfl, HR.out⟩
          case measure => simp [intOf]; omega
        · have hle' : ¬ (q ≤ 2 * (s.1.n + 1 + (s.1.as.length : Int))) := hle
          have HF := Lib.hid ((HL.out.step HW.out.b))
          go_wp2_with fail
          refine wp_region_noPanic ?_
          refine wp_region_seq (fun W => W.cell? ⟨w1.heap.size, 0, none⟩ = some (.int .i64 s.1.n) ∧ W.cell? ⟨w1.heap.size, 1, none⟩ = some (.slice B s.1.as.length d) ∧ Low wo W) [0, 1, 2, 3, 5, 6, 4, 7, 8, 9, 10] [1, 2, 3, 5, 6, 9, 10] [] (by kernel_rfl) (by kernel_rfl) rfl (by kernel_rfl) (by kernel_rfl) (fun _ _ _ _ _ h => h) ?_ (fun hSS => ?_)
          · exact ⟨c0, c1, HR.out.step (stepD1 _)⟩
          replace HR := Lib.hid (HR.out.step (stepD1 _))
          clear c0 c1 hSS
          (refine wpSeq_fix rfl rfl ?_; intro o ho; simp only [List.getElem?_toArray, List.getElem?_cons_zero, List.getElem?_cons_succ, Option.some.injEq] at ho; subst ho; intro K hK)
          go_simp
          refine (awake2_any _).mono ?_
          rintro e w7 ⟨rfl, hb⟩
          replace HR := Lib.hid (HR.out.step hb)
          clear hb
          (refine hK.out _ _ (fun _ => ⟨(HGk.out.step HR.out.b).c0, (HGk.out.step HR.out.b).c1, HR.out⟩) ?_; clear hK K; try simp only [Act.put, List.setIfInBounds_toArray, List.set_cons_zero, List.set_cons_succ])
          (refine wpSeq_mov rfl rfl ?_; intro o ho; simp only [List.getElem?_toArray, List.getElem?_cons_zero, List.getElem?_cons_succ, Option.some.injEq] at ho; subst ho; refine ⟨?_, Or.inl ⟨by rfl, fun W hSW => ?_⟩, ?_⟩; rotate_left; (focus (go_simp; first | done | with_reducible rfl)); try simp only [Act.put, List.setIfInBounds_toArray, List.set_cons_zero, List.set_cons_succ])
          (refine wpSeq_mov rfl rfl ?_; intro o ho; simp only [List.getElem?_toArray, List.getElem?_cons_zero, List.getElem?_cons_succ, Option.some.injEq] at ho; subst ho; refine ⟨?_, Or.inl ⟨by rfl, fun W hSW => ?_⟩, ?_⟩; rotate_left; (focus (go_simp; first | done | with_reducible rfl)); try simp only [Act.put, List.setIfInBounds_toArray, List.set_cons_zero, List.set_cons_succ])
          (refine wpSeq_mov rfl rfl ?_; intro o ho; simp only [List.getElem?_toArray, List.getElem?_cons_zero, List.getElem?_cons_succ, Option.some.injEq] at ho; subst ho; refine ⟨?_, Or.inl ⟨by rfl, fun W hSW => ?_⟩, ?_⟩; rotate_left; (focus (go_simp; first | done | with_reducible rfl)); try simp only [Act.put, List.setIfInBounds_toArray, List.set_cons_zero, List.set_cons_succ])
          (refine wpSeq_mov rfl rfl ?_; intro o ho; simp only [List.getElem?_toArray, List.getElem?_cons_zero, List.getElem?_cons_succ, Option.some.injEq] at ho; subst ho; refine ⟨?_, Or.inl ⟨by rfl, fun W hSW => ?_⟩, ?_⟩; rotate_left; (focus (go_simp; first | done | with_reducible rfl)); try simp only [Act.put, List.setIfInBounds_toArray, List.set_cons_zero, List.set_cons_succ])
          (refine wpSeq_mov rfl rfl ?_; intro o ho; simp only [List.getElem?_toArray, List.getElem?_cons_zero, List.getElem?_cons_succ, Option.some.injEq] at ho; subst ho; refine ⟨?_, Or.inl ⟨by rfl, fun W hSW => ?_⟩, ?_⟩; rotate_left; (focus (go_simp; first | done | with_reducible rfl)); try simp only [Act.put, List.setIfInBounds_toArray, List.set_cons_zero, List.set_cons_succ])
          (refine wpSeq_fix rfl rfl ?_; intro o ho; simp only [List.getElem?_toArray, List.getElem?_cons_zero, List.getElem?_cons_succ, Option.some.injEq] at ho; subst ho; intro K hK)
          go_simp
          refine (HC5.out _ HR.out).mono ?_
          rintro e w8 ⟨A1, k1, rfl, _, hv1, hb⟩
          replace HR := Lib.hid (HR.out.step hb)
          have HV1 : Hid (ValsF w8 A1 (bools v)) := ⟨hv1⟩
          clear hb hv1
          (refine hK.out _ _ (fun _ => ⟨(HGk.out.step HR.out.b).c0, (HGk.out.step HR.out.b).c1, HR.out⟩) ?_; clear hK K; try simp only [Act.put, List.setIfInBounds_toArray, List.set_cons_zero, List.set_cons_succ])
          (refine wpSeq_fix rfl rfl ?_; intro o ho; simp only [List.getElem?_toArray, List.getElem?_cons_zero, List.getElem?_cons_succ, Option.some.injEq] at ho; subst ho; intro K hK)
          go_simp
          refine (HC6.out _ HR.out).mono ?_
          rintro e w9 ⟨A2, k2, rfl, _, hv2, hb⟩
          replace HR := Lib.hid (HR.out.step hb); replace HV1 := Lib.hid (HV1.out.step hb)
          have HV2 : Hid (ValsF w9 A2 (bools v)) := ⟨hv2⟩
          clear hb hv2
          (refine hK.out _ _ (fun _ => ⟨(HGk.out.step HR.out.b).c0, (HGk.out.step HR.out.b).c1, HR.out⟩) ?_; clear hK K; try simp only [Act.put, List.setIfInBounds_toArray, List.set_cons_zero, List.set_cons_succ])
          (refine wpSeq_fix rfl rfl ?_; intro o ho; simp only [List.getElem?_toArray, List.getElem?_cons_zero, List.getElem?_cons_succ, Option.some.injEq] at ho; subst ho; intro K hK)
          go_simp
          refine (sameBools_any v A1 A2 k1 k2 _ hvl HV1.out.p HV2.out.p).mono ?_
          rintro e w10 ⟨rfl, hb⟩
          replace HR := Lib.hid (HR.out.step hb)
          clear hb HV1 HV2
          (refine hK.out _ _ (fun _ => ⟨(HGk.out.step HR.out.b).c0, (HGk.out.step HR.out.b).c1, HR.out⟩) ?_; clear hK K; try simp only [Act.put, List.setIfInBounds_toArray, List.set_cons_zero, List.set_cons_succ])
          (refine wpSeq_mov rfl rfl ?_; intro o ho; simp only [List.getElem?_toArray, List.getElem?_cons_zero, List.getElem?_cons_succ, Option.some.injEq] at ho; subst ho; refine ⟨?_, Or.inl ⟨by rfl, fun W hSW => ?_⟩, ?_⟩; rotate_left; (focus (go_simp; first | done | with_reducible rfl)); try simp only [Act.put, List.setIfInBounds_toArray, List.set_cons_zero, List.set_cons_succ])
          (refine wpSeq_mov rfl rfl ?_; intro o ho; simp only [List.getElem?_toArray, List.getElem?_cons_zero, List.getElem?_cons_succ, Option.some.injEq] at ho; subst ho; refine ⟨?_, Or.inl ⟨by rfl, fun W hSW => ?_⟩, ?_⟩; rotate_left; (focus (go_simp; first | done | with_reducible rfl)); try simp only [Act.put, List.setIfInBounds_toArray, List.set_cons_zero, List.set_cons_succ])
          refine wpSeq_done ?_
          go_wp2_with fail
          go_ret
          exact ⟨rfl, (HF.out.step HR.out.b).b⟩
end Go.Proofs.Ytbdhkagcbncefaa
