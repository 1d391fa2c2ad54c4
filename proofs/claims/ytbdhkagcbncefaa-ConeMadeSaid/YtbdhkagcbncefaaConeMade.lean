/- ConeMade's walk. -/
import Derived.Test.YtbdhkagcbncefaaG6
import Derived.Test.YtbdhkagcbncefaaG5
import Derived.Test.YtbdhkagcbncefaaPBy
set_option linter.unusedVariables false
set_option linter.unusedSimpArgs false
namespace Go.Proofs.Ytbdhkagcbncefaa
open Go.RowKit Go.Maps

set_option maxRecDepth 100000 in
set_option maxHeartbeats 4000000 in
theorem coneMade_any (n : Int) (xs : List Int) (A : Option Addr) (cp : Nat) (m : Int) (ks : List Int) (A2 : Option Addr) (cp2 : Nat) (bs : List Int) (A3 : Option Addr) (c3 : Nat) (input : Int) (val : Bool) (w : World) (hn : 0 ≤ n ∧ n ≤ 255) (hx : U16 xs) (hcp : xs.length ≤ cp) (hcl : cp ≤ 70368744177664) (hp : Vals w w.heap.size A (u16s xs)) (hm : 0 ≤ m ∧ m ≤ 255) (hks : U16 ks) (hcp2 : ks.length ≤ cp2) (hcl2 : cp2 ≤ 70368744177664) (hp2 : Vals w w.heap.size A2 (u16s ks)) (hbs : ∀ b ∈ bs, 0 ≤ b ∧ b ≤ 255) (hcb : bs.length ≤ c3) (hcbl : c3 ≤ 140737488355328) (hbv : Vals w w.heap.size A3 (bs.map (.int .u8 ·))) (ha : 0 ≤ input ∧ input ≤ 255) :
    Calls Try.prog 21 #[.int .u8 n, .slice A xs.length cp, .int .u8 m, .slice A2 ks.length cp2, .slice A3 bs.length c3, .int .u8 input, .bool val] w (Ret w (.bool true)) := by
  have hnot := @not_run Try.prog
  have HM := Lib.hid (fun (w1 : World) (h : Below w.heap.size w w1) => made_any (n % 7) xs A cp w1 (by omega) (by omega) hx (by omega) (hp.after h))
  have HI := Lib.hid (madeG_inv (n := n % 7) (by omega) (by omega) xs)
  generalize madeG (n % 7) xs = s at HM HI
  have n0 : 0 ≤ s.1.n := by rw [HI.out.n]; omega
  have n1 : s.1.n ≤ 6 := by rw [HI.out.n]; omega
  have l1 : s.1.as.length ≤ 40 := HI.out.len
  obtain ⟨N, hN⟩ : ∃ N : Nat, s.1.n = (N : Int) := ⟨s.1.n.toNat, by omega⟩
  have HN := Lib.hid hN
  have hN6 : N ≤ 6 := by omega
  have hll := lit_lt HI.out.lit
  have hl1 : s.2 ≤ 9223372036854775807 := by unfold Gr.vars at hll; omega
  clear hN hll
  have HM2 := Lib.hid (fun (w1 : World) (h : Below w.heap.size w w1) => made_any (m % 7) ks A2 cp2 w1 (by omega) (by omega) hks (by omega) (hp2.after h))
  have HT := Lib.hid (madeG_inv (n := m % 7) (by omega) (by omega) ks)
  generalize madeG (m % 7) ks = t at HM2 HT
  have tn0 : 0 ≤ t.1.n := by rw [HT.out.n]; omega
  have tn1 : t.1.n ≤ 6 := by rw [HT.out.n]; omega
  have tl1 : t.1.as.length ≤ 40 := HT.out.len
  obtain ⟨NT, hNT⟩ : ∃ NT : Nat, t.1.n = (NT : Int) := ⟨t.1.n.toNat, by omega⟩
  have HNT := Lib.hid hNT
  have hNT6 : NT ≤ 6 := by omega
  have hmz : (2 * (t.1.n + 1 + (t.1.as.length : Int)) == 0) = false := by simp; omega
  have hM0 : 0 < 2 * (t.1.n + 1 + (t.1.as.length : Int)) := by omega
  have HBV := Lib.hid hbv
  have HBS := Lib.hid hbs
  clear hNT
  have hbm : ∀ x ∈ byL bs (2 * (t.1.n + 1 + (t.1.as.length : Int))) N, x ≤ 9223372036854775807 := fun x hx => by have := lit_lt (byL_lit HT.out.right hbs N x hx); unfold Gr.vars at this; omega
  have HBM0 := Lib.hid hbm
  clear hx hp hks hp2 hbv hbs hbm
  go_enter Try.func21, Try.ntmps21
  go_wp2_with fail
  have HL := Lib.hid (Low.refl w)
  refine (HM.out w HL.out.b).mono ?_
  rintro e w1 ⟨B, d, rfl, hc1, hp1, hb⟩
  replace HL := Lib.hid (HL.out.step hb)
  replace HL := Lib.hid (HL.out.step (stepA w1 (.cells #[.int .i64 s.1.n, .slice B s.1.as.length d] 24)))
  have HG := Lib.hid (GBox.new hc1 hp1)
  clear hb hp1 hc1 HM
  go_wp2_with fail
  refine (HM2.out _ HL.out.b).mono ?_
  rintro e w2 ⟨B2, d2, rfl, hc2, hp2, hb⟩
  replace HL := Lib.hid (HL.out.step hb); replace HG := Lib.hid (HG.out.step hb)
  replace HL := Lib.hid (HL.out.step (stepA w2 (.cells #[.int .i64 t.1.n, .slice B2 t.1.as.length d2] 24))); replace HG := Lib.hid (HG.out.step (stepA w2 (.cells #[.int .i64 t.1.n, .slice B2 t.1.as.length d2] 24)))
  have HQ := Lib.hid (GBox.new hc2 hp2)
  clear hb hp2 hc2 HM2
  have HBU : Hid (ValsF _ A3 (bs.map (.int .u8 ·))) := ⟨HBV.out.after HL.out.b⟩
  clear HBV
  obtain ⟨i0, hi0, hz0, hz1, hz2⟩ := info_parts intInfo
  go_wp2_with fail
  generalize hw2x : w2.alloc (.cells #[.int .i64 t.1.n, .slice B2 t.1.as.length d2] 24) = w2x at HL HG HQ HBU ⊢
  clear hw2x
  go_loopw [19, 20] (fun b' i wr => ∃ (k : Nat) (I : Option Addr) (ci : Nat), k ≤ N ∧ b' = .slice I k ci ∧ i = .int .i64 k ∧ OwnF wr w2x.heap.size 3 1 (.slice I k ci) k (i64s (byL bs (2 * (t.1.n + 1 + (t.1.as.length : Int))) k)) ∧ Low w2x wr) (fun _ i _ => N - (intOf i).toNat)
  case atStart => exact ⟨0, none, 0, Nat.zero_le _, rfl, rfl, ⟨World.ownsRow_nil _ _ _ _⟩, Low.refl _⟩
  case round =>
    obtain ⟨k, I, ci, hk, rfl, rfl, hoi, hlow⟩ := hrel
    have HOI := Lib.hid hoi
    have HW := Lib.hid hlow
    have e0 := (HG.out.step hlow.b).c0
    have e1 := (HG.out.step hlow.b).c1
    have c0 := (HQ.out.step hlow.b).c0
    have c1 := (HQ.out.step hlow.b).c1
    clear hoi hlow
    by_cases hlt : k < N
    · have hlt' : (k : Int) < s.1.n := by have := HN.out; omega
      obtain ⟨X, hX⟩ : ∃ X, byAt bs (2 * (t.1.n + 1 + (t.1.as.length : Int))) k = X := ⟨_, rfl⟩
      have HBX := Lib.hid hX
      have HSN := Lib.hid (byL_succ bs (2 * (t.1.n + 1 + (t.1.as.length : Int))) k)
      by_cases hkb : k < bs.length
      · have hkb' : (k : Int) < (bs.length : Int) := by omega
        obtain ⟨y, hy⟩ : ∃ y, bs[k]? = some y := ⟨_, List.getElem?_eq_getElem hkb⟩
        obtain ⟨b3, o3, rfl, _, qb⟩ := (HBU.out.step HW.out.b).p k (.int .u8 y) (by rw [List.getElem?_map, hy]; rfl)
        obtain ⟨y1, y2⟩ := HBS.out y (List.mem_of_getElem? hy)
        have hX' : y % (2 * (t.1.n + 1 + (t.1.as.length : Int))) = X := by rw [← hX]; unfold byAt; rw [hy]; rfl
        clear hX hy hkb
        go_wp2_with fail
        refine (rvars_any _ _ _ _ _ tn0 (by omega) (by omega)).mono ?_
        rintro e w5 ⟨rfl, hb⟩
        replace HW := Lib.hid (HW.out.step hb)
        replace HOI := Lib.hid (HOI.out.step hb)
        have hs5 := HW.out.size
        clear hb c0 c1 qb
        go_wp2_with ((at_builtin; go_loud (refine wpList_append_vals _ rfl (.tmp 54) (.tmp 60) _ rfl w2x.heap.size 3 i0 _ 1 8 Try.underlying26 hi0 hz0 hz1 hz2 rfl (by omega) (.slice I k ci) k (i64s (byL bs (2 * (t.1.n + 1 + (t.1.as.length : Int))) k)) rfl (HOI.out.p.alloc _) _ _ 1 1 [.int .i64 X] rfl rfl (vals_new w5 [.int .i64 X] 3) (i64s_one [X]) (by unfold maxLen; omega) (by omega) (by simp; omega) ?_); intro v6 w6 hown6 hg6; have HO6 := Lib.hid hown6; have HW6 := Lib.hid ((HW.out.step (stepA w5 (.cells #[.int .i64 X] 3))).grown hg6 (own_block HOI.out.p)); clear hown6 hg6))
        go_roundw
        case rel =>
          obtain ⟨I6, c6, hv6, _⟩ := own_form HO6.out
          subst hv6
          exact ⟨k + 1, I6, c6, by omega, rfl, by go_num, ⟨by rw [HSN.out, i64s_append, HBX.out]; exact HO6.out⟩, HW6.out⟩
        case measure => simp [intOf]; omega
      · have hkb' : ¬ ((k : Int) < (bs.length : Int)) := by omega
        have hX' : (k : Int) % (2 * (t.1.n + 1 + (t.1.as.length : Int))) = X := by rw [← hX]; unfold byAt; rw [List.getElem?_eq_none (by omega)]; rfl
        have qb : True := trivial
        clear hX hkb
        go_wp2_with fail
        refine (rvars_any _ _ _ _ _ tn0 (by omega) (by omega)).mono ?_
        rintro e w5 ⟨rfl, hb⟩
        replace HW := Lib.hid (HW.out.step hb)
        replace HOI := Lib.hid (HOI.out.step hb)
        have hs5 := HW.out.size
        clear hb c0 c1 qb
        go_wp2_with ((at_builtin; go_loud (refine wpList_append_vals _ rfl (.tmp 54) (.tmp 60) _ rfl w2x.heap.size 3 i0 _ 1 8 Try.underlying26 hi0 hz0 hz1 hz2 rfl (by omega) (.slice I k ci) k (i64s (byL bs (2 * (t.1.n + 1 + (t.1.as.length : Int))) k)) rfl (HOI.out.p.alloc _) _ _ 1 1 [.int .i64 X] rfl rfl (vals_new w5 [.int .i64 X] 3) (i64s_one [X]) (by unfold maxLen; omega) (by omega) (by simp; omega) ?_); intro v6 w6 hown6 hg6; have HO6 := Lib.hid hown6; have HW6 := Lib.hid ((HW.out.step (stepA w5 (.cells #[.int .i64 X] 3))).grown hg6 (own_block HOI.out.p)); clear hown6 hg6))
        go_roundw
        case rel =>
          obtain ⟨I6, c6, hv6, _⟩ := own_form HO6.out
          subst hv6
          exact ⟨k + 1, I6, c6, by omega, rfl, by go_num, ⟨by rw [HSN.out, i64s_append, HBX.out]; exact HO6.out⟩, HW6.out⟩
        case measure => simp [intOf]; omega
    · have hkN : k = N := by omega
      have hlt' : ¬ ((k : Int) < s.1.n) := by have := HN.out; omega
      rw [← hkN] at HBM0
      have HGk := Lib.hid (HG.out.step HW.out.b)
      have HQk := Lib.hid (HQ.out.step HW.out.b)
      have HLk := Lib.hid (HL.out.step HW.out.b)
      have hsz := HW.out.size
      clear hkN
      by_cases hb20 : bs.length ≤ 20
      · have hb20' : ¬ ((20 : Int) < (bs.length : Int)) := by omega
        have HBM := HBM0
        have HLN : Hid ((byL bs (2 * (t.1.n + 1 + (t.1.as.length : Int))) k).length = k) := byL_length _ _ _
        have HVk : Hid (ValsF wr I (i64s (byL bs (2 * (t.1.n + 1 + (t.1.as.length : Int))) k))) := ⟨Vals.of_own HOI.out.p⟩
        generalize byL bs (2 * (t.1.n + 1 + (t.1.as.length : Int))) k = bl at HBM HLN HVk
        have hbl : bl.length ≤ 100 := by rw [HLN.out]; omega
        have HSS3 := Lib.hid (same3_any t.1 s.1 s.2 bl (input % 8) val B2 B I d2 d ci)
        go_wp2_with fail
        refine (awake3_any _).mono ?_
        rintro e w8 ⟨rfl, hb⟩
        replace HLk := Lib.hid (HLk.out.step hb); replace HGk := Lib.hid (HGk.out.step hb); replace HQk := Lib.hid (HQk.out.step hb); replace HVk := Lib.hid (HVk.out.step hb)
        clear hb c0 c1 e0 e1
        have c0 := HQk.out.c0
        have c1 := HQk.out.c1
        have e0 := HGk.out.c0
        have e1 := HGk.out.c1
        have HCC := Lib.hid (HSS3.out _ HT.out.ok HI.out.ok hl1 HQk.out.cap HGk.out.cap HQk.out.prs HGk.out.prs HBM.out (by omega) HVk.out.p (by omega))
        rw [HLN.out] at HCC
        go_wp2_with fail
        refine HCC.out.mono ?_
        rintro e w9 ⟨rfl, hb⟩
        go_wp2_with fail
        go_ret
        exact ⟨rfl, (HLk.out.step hb).b⟩
      · have hb20' : (20 : Int) < (bs.length : Int) := by omega
        go_wp2_with ((at_builtin; go_loud (refine wpList_append_vals _ rfl (.tmp 65) (.tmp 66) _ rfl w2x.heap.size 3 i0 _ 1 8 Try.underlying26 hi0 hz0 hz1 hz2 rfl (by omega) (.slice I k ci) k (i64s (byL bs (2 * (t.1.n + 1 + (t.1.as.length : Int))) k)) rfl (HOI.out.p.alloc _) _ _ 1 1 [.int .i64 1] rfl rfl (vals_new wr [.int .i64 1] 3) (i64s_one [1]) (by unfold maxLen; omega) (by omega) (by simp; omega) ?_); intro v6 w6 hown6 hg6; go_loud (obtain ⟨I6, c6, hv6, hc6⟩ := own_form hown6); go_loud (rw [hv6] at hown6 ⊢); have HO6 := Lib.hid hown6; go_loud (have HW6 := Lib.hid ((HW.out.step (stepA wr (.cells #[.int .i64 1] 3))).grown hg6 (own_block HOI.out.p))); clear hown6 hg6 hv6))
        clear HGk HQk HLk c0 c1 e0 e1
        have HGk := Lib.hid (HG.out.step HW6.out.b)
        have HQk := Lib.hid (HQ.out.step HW6.out.b)
        have HLk := Lib.hid (HL.out.step HW6.out.b)
        have c0 := HQk.out.c0
        have c1 := HQk.out.c1
        have e0 := HGk.out.c0
        have e1 := HGk.out.c1
        have HVk : Hid (ValsF w6 I6 (i64s (byL bs (2 * (t.1.n + 1 + (t.1.as.length : Int))) k ++ [1]))) := ⟨by rw [i64s_append]; exact Vals.of_own HO6.out⟩
        have HBM : Hid (∀ x ∈ byL bs (2 * (t.1.n + 1 + (t.1.as.length : Int))) k ++ [1], x ≤ 9223372036854775807) := fun x hx => by
          rcases List.mem_append.1 hx with h | h
          · exact HBM0.out x h
          · simp at h
            omega
        have HLN : Hid ((byL bs (2 * (t.1.n + 1 + (t.1.as.length : Int))) k ++ [1]).length = k + 1) := by show _ = _; rw [List.length_append, byL_length]; rfl
        generalize byL bs (2 * (t.1.n + 1 + (t.1.as.length : Int))) k ++ [1] = bl at HBM HLN HVk
        have hbl : bl.length ≤ 100 := by rw [HLN.out]; omega
        have HSS3 := Lib.hid (same3_any t.1 s.1 s.2 bl (input % 8) val B2 B I6 d2 d c6)
        go_wp2_with fail
        refine (awake3_any _).mono ?_
        rintro e w8 ⟨rfl, hb⟩
        replace HLk := Lib.hid (HLk.out.step hb); replace HGk := Lib.hid (HGk.out.step hb); replace HQk := Lib.hid (HQk.out.step hb); replace HVk := Lib.hid (HVk.out.step hb)
        clear hb c0 c1 e0 e1
        have c0 := HQk.out.c0
        have c1 := HQk.out.c1
        have e0 := HGk.out.c0
        have e1 := HGk.out.c1
        have HCC := Lib.hid (HSS3.out _ HT.out.ok HI.out.ok hl1 HQk.out.cap HGk.out.cap HQk.out.prs HGk.out.prs HBM.out (by omega) HVk.out.p (by omega))
        rw [HLN.out] at HCC
        go_wp2_with fail
        refine HCC.out.mono ?_
        rintro e w9 ⟨rfl, hb⟩
        go_wp2_with fail
        go_ret
        exact ⟨rfl, (HLk.out.step hb).b⟩
end Go.Proofs.Ytbdhkagcbncefaa
