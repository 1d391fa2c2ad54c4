/- CnfMany's walk. -/
import Derived.Test.YtbdhkagcbncefaaG4
import Derived.Test.YtbdhkagcbncefaaRGates
import Derived.Test.YtbdhkagcbncefaaG3
set_option linter.unusedVariables false
set_option linter.unusedSimpArgs false
namespace Go.Proofs.Ytbdhkagcbncefaa
open Go.RowKit Go.Maps

set_option maxRecDepth 100000 in
set_option maxHeartbeats 4000000 in
theorem cnfMany_any (n : Int) (xs : List Int) (A : Option Addr) (cp : Nat) (a : Int) (w : World) (hn : 0 ≤ n ∧ n ≤ 255) (hx : U16 xs) (hcp : xs.length ≤ cp) (hcl : cp ≤ 70368744177664) (hp : Vals w w.heap.size A (u16s xs)) (ha : 0 ≤ a ∧ a ≤ 255) :
    Calls Try.prog 18 #[.int .u8 n, .slice A xs.length cp, .int .u8 a] w (Ret w (.bool true)) := by
  have hnot := @not_run Try.prog
  have HM := Lib.hid (fun (w1 : World) (h : Below w.heap.size w w1) => made_any (n % 7) xs A cp w1 (by omega) (by omega) hx (by omega) (hp.after h))
  have HI := Lib.hid (madeG_inv (n := n % 7) (by omega) (by omega) xs)
  generalize madeG (n % 7) xs = s at HM HI
  have n0 : 0 ≤ s.1.n := by rw [HI.out.n]; omega
  have n1 : s.1.n ≤ 6 := by rw [HI.out.n]; omega
  have l1 : s.1.as.length ≤ 40 := HI.out.len
  obtain ⟨N, hN⟩ : ∃ N : Nat, s.1.n = (N : Int) := ⟨s.1.n.toNat, by omega⟩
  have HN := Lib.hid hN
  have hN6 : N ≤ 6 := by omega
  have hll := lit_lt HI.out.lit
  have hl1 : s.2 ≤ 9223372036854775807 := by unfold Gr.vars at hll; omega
  clear hN hll
  have hmz : (2 * (s.1.n + 1 + (s.1.as.length : Int)) == 0) = false := by simp; omega
  have hM0 : 0 < 2 * (s.1.n + 1 + (s.1.as.length : Int)) := by omega
  obtain ⟨x, hxe⟩ : ∃ x, x = a % (2 * (s.1.n + 1 + (s.1.as.length : Int))) := ⟨_, rfl⟩
  have lx : litB s.1 x = true := lit_of HI.out.right (by rw [hxe]; exact Int.emod_nonneg _ (by omega)) (by rw [hxe]; exact Int.emod_lt_of_pos _ hM0)
  have x0 : 0 ≤ x := litB_ge lx
  have x1 : x ≤ 9223372036854775807 := by have := lit_lt lx; unfold Gr.vars at this; omega
  have hxf : bits .xor .i64 x 1 = flip x := xor_flip x x0 x1
  have fx := flip_max x0 x1
  obtain ⟨V, hV⟩ : ∃ V, V = s.1.n + 1 + (s.1.as.length : Int) := ⟨_, rfl⟩
  obtain ⟨cs, hcs⟩ : ∃ cs, cs = clausesAt s.1 x s.1.as.length := ⟨_, rfl⟩
  have e1 : cnfG s.1 x = (V, cs, 0) := by rw [cnfG_yes HI.out.right lx, hcs, hV]; rfl
  have e2 : cnfG s.1 (flip x) = (V, cs, 0) := by rw [cnfG_yes HI.out.right (flip_lit lx), hcs, clausesAt_half flip_half, hV]; rfl
  have HLN : Hid (cs.length = 1 + 3 * gatesG s.1 x) := by show cs.length = _; rw [hcs, clausesAt_many _ _ _ (Nat.le_refl _), gatesG_yes HI.out.right lx]
  have HLS : Hid (∀ l ∈ cs, l.length ≤ 140737488355328) := fun l hl => by rw [hcs] at hl; have := clausesAt_small _ _ _ l hl; omega
  have hgl : gatesG s.1 x ≤ 40 := by have := gatesG_le s.1 x; omega
  have HC1 := Lib.hid (fun (B : Option Addr) (d : Nat) (w1 : World) (k2 : Prs w1 w1.heap.size B s.1.as) => cof_any s.1 x B d w1 HI.out.ok x1 k2)
  have HC2 := Lib.hid (fun (B : Option Addr) (d : Nat) (w1 : World) (k2 : Prs w1 w1.heap.size B s.1.as) => cof_any s.1 (flip x) B d w1 HI.out.ok fx.2 k2)
  have HGT := Lib.hid (fun (B : Option Addr) (d : Nat) (w1 : World) (k2 : Prs w1 w1.heap.size B s.1.as) => rgates_any s.1 x B d w1 HI.out.ok x1 k2)
  rw [e1] at HC1
  rw [e2] at HC2
  have hVV : (V == s.1.n + 1 + (s.1.as.length : Int)) = true := by rw [hV]; simp
  have hVb : 0 ≤ V ∧ V ≤ 47 := by omega
  generalize gatesG s.1 x = G at HLN hgl HGT
  have hcl3 : cs.length ≤ 200 := by rw [HLN.out]; omega
  have hxe' := hxe.symm
  clear e1 e2 hV hcs hx hp hxe
  go_enter Try.func18, Try.ntmps18
  go_wp2_with fail
  refine (awake14_any _).mono ?_
  rintro e w0 ⟨rfl, hb⟩
  have HL := Lib.hid ((Low.refl w).step hb)
  clear hb
  go_wp2_with fail
  refine (HM.out w0 HL.out.b).mono ?_
  rintro e w1 ⟨B, d, rfl, hc1, hp1, hb⟩
  replace HL := Lib.hid (HL.out.step hb)
  replace HL := Lib.hid (HL.out.step (stepA w1 (.cells #[.int .i64 s.1.n, .slice B s.1.as.length d] 24)))
  have HG := Lib.hid (GBox.new hc1 hp1)
  clear hb hp1 hc1 HM
  have c0 := HG.out.c0
  have c1 := HG.out.c1
  go_wp2_with fail
  refine (rvars_any _ _ _ _ _ n0 (by omega) (by omega)).mono ?_
  rintro e w2 ⟨rfl, hb⟩
  replace HL := Lib.hid (HL.out.step hb); replace HG := Lib.hid (HG.out.step hb)
  clear hb c0 c1
  have c0 := HG.out.c0
  have c1 := HG.out.c1
  go_wp2_with fail
  rw [hxe']
  refine (HC1.out B d _ HG.out.prs).mono ?_
  rintro e w3 ⟨A1, c3, rfl, hc3, hcl, hb⟩
  simp only at hc3 hcl ⊢
  replace HL := Lib.hid (HL.out.step hb); replace HG := Lib.hid (HG.out.step hb)
  have HCL : Hid (Cls _ _ A1 _) := hcl.after (stepA w3 (.cells #[.int .i64 V, .slice A1 cs.length c3] 57))
  have HK := Lib.hid (BlkF.new w3 57 #[.int .i64 V, .slice A1 cs.length c3])
  replace HL := Lib.hid (HL.out.step (stepA w3 (.cells #[.int .i64 V, .slice A1 cs.length c3] 57))); replace HG := Lib.hid (HG.out.step (stepA w3 (.cells #[.int .i64 V, .slice A1 cs.length c3] 57)))
  clear hcl hb c0 c1 hxe'
  have c0 := HG.out.c0
  have c1 := HG.out.c1
  go_wp2_with fail
  try rw [hxf]
  refine (HC2.out B d _ HG.out.prs).mono ?_
  rintro e w4 ⟨A2, c4, rfl, hc4, hcl, hb⟩
  simp only at hc4 hcl ⊢
  replace HL := Lib.hid (HL.out.step hb); replace HG := Lib.hid (HG.out.step hb); replace HK := Lib.hid (HK.out.step hb)
  replace HCL := Lib.hid (HCL.out.after hb)
  have HDL : Hid (Cls _ _ A2 _) := hcl.after (stepA w4 (.cells #[.int .i64 V, .slice A2 cs.length c4] 57))
  have HJ := Lib.hid (BlkF.new w4 57 #[.int .i64 V, .slice A2 cs.length c4])
  replace HL := Lib.hid (HL.out.step (stepA w4 (.cells #[.int .i64 V, .slice A2 cs.length c4] 57))); replace HG := Lib.hid (HG.out.step (stepA w4 (.cells #[.int .i64 V, .slice A2 cs.length c4] 57))); replace HK := Lib.hid (HK.out.step (stepA w4 (.cells #[.int .i64 V, .slice A2 cs.length c4] 57)))
  replace HCL := Lib.hid (HCL.out.after (stepA w4 (.cells #[.int .i64 V, .slice A2 cs.length c4] 57)))
  clear hcl hb c0 c1 HC1 HC2 hxf
  go_wp2_with fail
  replace HL := Lib.hid (HL.out.step (stepD1 _)); replace HG := Lib.hid (HG.out.step (stepD1 _)); replace HK := Lib.hid (HK.out.step (stepD1 _)); replace HJ := Lib.hid (HJ.out.step (stepD1 _))
  replace HCL := Lib.hid (HCL.out.after (stepD1 _))
  replace HDL := Lib.hid (HDL.out.after (stepD1 _))
  have hw1 : IntKind.i64.wrap (3 * (G : Int)) = 3 * (G : Int) := IntWalk.i64_in _ (by omega)
  have hw2 : IntKind.i64.wrap (1 + 3 * (G : Int)) = 1 + 3 * (G : Int) := IntWalk.i64_in _ (by omega)
  have hlt : ((cs.length : Int) == 1 + 3 * (G : Int)) = true := by rw [HLN.out]; simp
  refine wp_region_noPanic ?_
  refine wp_region_seq (fun W => W.cell? ⟨w1.heap.size, 0, none⟩ = some (.int .i64 s.1.n) ∧ W.cell? ⟨w1.heap.size, 1, none⟩ = some (.slice B s.1.as.length d) ∧ W.cell? ⟨w3.heap.size, 0, none⟩ = some (.int .i64 V) ∧ W.cell? ⟨w3.heap.size, 1, none⟩ = some (.slice A1 cs.length c3) ∧ W.cell? ⟨w4.heap.size, 0, none⟩ = some (.int .i64 V) ∧ W.cell? ⟨w4.heap.size, 1, none⟩ = some (.slice A2 cs.length c4)) [0, 1, 2, 3, 4, 5, 6, 7, 8, 9, 10, 11, 12, 13, 14, 15, 16, 17, 18, 19, 20, 21, 22, 23, 24, 25, 26, 27, 28, 29, 30, 31, 32] [0, 1, 2, 3, 4, 5, 6, 7, 8, 9, 10, 11, 12, 13, 14, 16, 17, 18, 19, 20, 21, 22, 24, 25, 26, 27, 28, 30, 31, 32] [] (by kernel_rfl) (by kernel_rfl) rfl (by kernel_rfl) (by kernel_rfl) (fun _ _ _ _ _ h => h) ?_ (fun hSS => ?_)
  · exact ⟨HG.out.c0, HG.out.c1, HK.out.cell 0, HK.out.cell 1, HJ.out.cell 0, HJ.out.cell 1⟩
  clear hSS
  (refine wpSeq_mov rfl rfl ?_; intro o ho; simp only [List.getElem?_toArray, List.getElem?_cons_zero, List.getElem?_cons_succ, Option.some.injEq] at ho; subst ho; refine ⟨?_, Or.inl ⟨by rfl, fun W hSW => ?_⟩, ?_⟩; rotate_left; (focus (go_simp; first | done | with_reducible rfl)); try simp only [Act.put, List.setIfInBounds_toArray, List.set_cons_zero, List.set_cons_succ])
  (refine wpSeq_mov rfl rfl ?_; intro o ho; simp only [List.getElem?_toArray, List.getElem?_cons_zero, List.getElem?_cons_succ, Option.some.injEq] at ho; subst ho; refine ⟨?_, Or.inl ⟨by rfl, fun W hSW => ?_⟩, ?_⟩; rotate_left; (focus (go_simp; first | done | with_reducible rfl)); try simp only [Act.put, List.setIfInBounds_toArray, List.set_cons_zero, List.set_cons_succ])
  (refine wpSeq_mov rfl rfl ?_; intro o ho; simp only [List.getElem?_toArray, List.getElem?_cons_zero, List.getElem?_cons_succ, Option.some.injEq] at ho; subst ho; refine ⟨?_, Or.inl ⟨by rfl, fun W hSW => ?_⟩, ?_⟩; rotate_left; (focus (go_simp; first | done | with_reducible rfl)); try simp only [Act.put, List.setIfInBounds_toArray, List.set_cons_zero, List.set_cons_succ])
  (refine wpSeq_mov rfl rfl ?_; intro o ho; simp only [List.getElem?_toArray, List.getElem?_cons_zero, List.getElem?_cons_succ, Option.some.injEq] at ho; subst ho; refine ⟨?_, Or.inl ⟨by rfl, fun W hSW => ?_⟩, ?_⟩; rotate_left; (focus (go_simp; first | done | with_reducible rfl)); try simp only [Act.put, List.setIfInBounds_toArray, List.set_cons_zero, List.set_cons_succ])
  (refine wpSeq_mov rfl rfl ?_; intro o ho; simp only [List.getElem?_toArray, List.getElem?_cons_zero, List.getElem?_cons_succ, Option.some.injEq] at ho; subst ho; refine ⟨?_, Or.inl ⟨by rfl, fun W hSW => ?_⟩, ?_⟩; rotate_left; (focus (go_simp; first | done | with_reducible rfl)); try simp only [Act.put, List.setIfInBounds_toArray, List.set_cons_zero, List.set_cons_succ])
  (refine wpSeq_mov rfl rfl ?_; intro o ho; simp only [List.getElem?_toArray, List.getElem?_cons_zero, List.getElem?_cons_succ, Option.some.injEq] at ho; subst ho; refine ⟨?_, Or.inl ⟨by rfl, fun W hSW => ?_⟩, ?_⟩; rotate_left; (focus (go_simp; first | done | with_reducible rfl)); try simp only [Act.put, List.setIfInBounds_toArray, List.set_cons_zero, List.set_cons_succ])
  (refine wpSeq_mov rfl rfl ?_; intro o ho; simp only [List.getElem?_toArray, List.getElem?_cons_zero, List.getElem?_cons_succ, Option.some.injEq] at ho; subst ho; refine ⟨?_, Or.inl ⟨by rfl, fun W hSW => ?_⟩, ?_⟩; rotate_left; (focus (go_simp; first | done | with_reducible rfl)); try simp only [Act.put, List.setIfInBounds_toArray, List.set_cons_zero, List.set_cons_succ])
  (refine wpSeq_mov rfl rfl ?_; intro o ho; simp only [List.getElem?_toArray, List.getElem?_cons_zero, List.getElem?_cons_succ, Option.some.injEq] at ho; subst ho; refine ⟨?_, Or.inl ⟨by rfl, fun W hSW => ?_⟩, ?_⟩; rotate_left; (focus (go_simp; first | done | with_reducible rfl)); try simp only [Act.put, List.setIfInBounds_toArray, List.set_cons_zero, List.set_cons_succ])
  (refine wpSeq_mov rfl rfl ?_; intro o ho; simp only [List.getElem?_toArray, List.getElem?_cons_zero, List.getElem?_cons_succ, Option.some.injEq] at ho; subst ho; refine ⟨?_, Or.inl ⟨by rfl, fun W hSW => ?_⟩, ?_⟩; rotate_left; (focus (go_simp; first | done | with_reducible rfl)); try simp only [Act.put, List.setIfInBounds_toArray, List.set_cons_zero, List.set_cons_succ])
  (refine wpSeq_mov rfl rfl ?_; intro o ho; simp only [List.getElem?_toArray, List.getElem?_cons_zero, List.getElem?_cons_succ, Option.some.injEq] at ho; subst ho; refine ⟨?_, Or.inl ⟨by rfl, fun W hSW => ?_⟩, ?_⟩; rotate_left; (focus (go_simp; first | done | with_reducible rfl)); try simp only [Act.put, List.setIfInBounds_toArray, List.set_cons_zero, List.set_cons_succ])
  (refine wpSeq_mov rfl rfl ?_; intro o ho; simp only [List.getElem?_toArray, List.getElem?_cons_zero, List.getElem?_cons_succ, Option.some.injEq] at ho; subst ho; refine ⟨?_, Or.inl ⟨by rfl, fun W hSW => ?_⟩, ?_⟩; rotate_left; (focus (go_simp; first | done | with_reducible rfl)); try simp only [Act.put, List.setIfInBounds_toArray, List.set_cons_zero, List.set_cons_succ])
  (refine wpSeq_mov rfl rfl ?_; intro o ho; simp only [List.getElem?_toArray, List.getElem?_cons_zero, List.getElem?_cons_succ, Option.some.injEq] at ho; subst ho; refine ⟨?_, Or.inl ⟨by rfl, fun W hSW => ?_⟩, ?_⟩; rotate_left; (focus (go_simp; first | done | with_reducible rfl)); try simp only [Act.put, List.setIfInBounds_toArray, List.set_cons_zero, List.set_cons_succ])
  (refine wpSeq_mov rfl rfl ?_; intro o ho; simp only [List.getElem?_toArray, List.getElem?_cons_zero, List.getElem?_cons_succ, Option.some.injEq] at ho; subst ho; refine ⟨?_, Or.inl ⟨by rfl, fun W hSW => ?_⟩, ?_⟩; rotate_left; (focus (go_simp; first | done | with_reducible rfl)); try simp only [Act.put, List.setIfInBounds_toArray, List.set_cons_zero, List.set_cons_succ])
  (refine wpSeq_mov rfl rfl ?_; intro o ho; simp only [List.getElem?_toArray, List.getElem?_cons_zero, List.getElem?_cons_succ, Option.some.injEq] at ho; subst ho; refine ⟨?_, Or.inl ⟨by rfl, fun W hSW => ?_⟩, ?_⟩; rotate_left; (focus (go_simp; first | done | with_reducible rfl)); try simp only [Act.put, List.setIfInBounds_toArray, List.set_cons_zero, List.set_cons_succ])
  (refine wpSeq_mov rfl rfl ?_; intro o ho; simp only [List.getElem?_toArray, List.getElem?_cons_zero, List.getElem?_cons_succ, Option.some.injEq] at ho; subst ho; refine ⟨?_, Or.inl ⟨by rfl, fun W hSW => ?_⟩, ?_⟩; rotate_left; (focus (go_simp; first | done | with_reducible rfl)); try simp only [Act.put, List.setIfInBounds_toArray, List.set_cons_zero, List.set_cons_succ])
  (refine wpSeq_fix rfl rfl ?_; intro o ho; simp only [List.getElem?_toArray, List.getElem?_cons_zero, List.getElem?_cons_succ, Option.some.injEq] at ho; subst ho; intro K hK)
  go_simp
  refine (HGT.out B d _ HG.out.prs).mono ?_
  rintro e w5 ⟨rfl, hb⟩
  replace HL := Lib.hid (HL.out.step hb); replace HG := Lib.hid (HG.out.step hb); replace HK := Lib.hid (HK.out.step hb); replace HJ := Lib.hid (HJ.out.step hb)
  replace HCL := Lib.hid (HCL.out.after hb)
  replace HDL := Lib.hid (HDL.out.after hb)
  clear hb
  (refine hK.out _ _ (fun _ => ⟨HG.out.c0, HG.out.c1, HK.out.cell 0, HK.out.cell 1, HJ.out.cell 0, HJ.out.cell 1⟩) ?_; clear hK K; try simp only [Act.put, List.setIfInBounds_toArray, List.set_cons_zero, List.set_cons_succ])
  (refine wpSeq_mov rfl rfl ?_; intro o ho; simp only [List.getElem?_toArray, List.getElem?_cons_zero, List.getElem?_cons_succ, Option.some.injEq] at ho; subst ho; refine ⟨?_, Or.inl ⟨by rfl, fun W hSW => ?_⟩, ?_⟩; rotate_left; (focus (go_simp; first | done | with_reducible rfl)); try simp only [Act.put, List.setIfInBounds_toArray, List.set_cons_zero, List.set_cons_succ])
  (refine wpSeq_mov rfl rfl ?_; intro o ho; simp only [List.getElem?_toArray, List.getElem?_cons_zero, List.getElem?_cons_succ, Option.some.injEq] at ho; subst ho; refine ⟨?_, Or.inl ⟨by rfl, fun W hSW => ?_⟩, ?_⟩; rotate_left; (focus (go_simp; first | done | with_reducible rfl)); try simp only [Act.put, List.setIfInBounds_toArray, List.set_cons_zero, List.set_cons_succ])
  (refine wpSeq_mov rfl rfl ?_; intro o ho; simp only [List.getElem?_toArray, List.getElem?_cons_zero, List.getElem?_cons_succ, Option.some.injEq] at ho; subst ho; refine ⟨?_, Or.inl ⟨by rfl, fun W hSW => ?_⟩, ?_⟩; rotate_left; (focus (go_simp; first | done | with_reducible rfl)); try simp only [Act.put, List.setIfInBounds_toArray, List.set_cons_zero, List.set_cons_succ])
  (refine wpSeq_mov rfl rfl ?_; intro o ho; simp only [List.getElem?_toArray, List.getElem?_cons_zero, List.getElem?_cons_succ, Option.some.injEq] at ho; subst ho; refine ⟨?_, Or.inl ⟨by rfl, fun W hSW => ?_⟩, ?_⟩; rotate_left; (focus (go_simp; first | done | with_reducible rfl)); try simp only [Act.put, List.setIfInBounds_toArray, List.set_cons_zero, List.set_cons_succ])
  (refine wpSeq_mov rfl rfl ?_; intro o ho; simp only [List.getElem?_toArray, List.getElem?_cons_zero, List.getElem?_cons_succ, Option.some.injEq] at ho; subst ho; refine ⟨?_, Or.inl ⟨by rfl, fun W hSW => ?_⟩, ?_⟩; rotate_left; (focus (go_simp; first | done | with_reducible rfl)); try simp only [Act.put, List.setIfInBounds_toArray, List.set_cons_zero, List.set_cons_succ])
  (refine wpSeq_mov rfl rfl ?_; intro o ho; simp only [List.getElem?_toArray, List.getElem?_cons_zero, List.getElem?_cons_succ, Option.some.injEq] at ho; subst ho; refine ⟨?_, Or.inl ⟨by rfl, fun W hSW => ?_⟩, ?_⟩; rotate_left; (focus (go_simp; first | done | with_reducible rfl)); try simp only [Act.put, List.setIfInBounds_toArray, List.set_cons_zero, List.set_cons_succ])
  (refine wpSeq_mov rfl rfl ?_; intro o ho; simp only [List.getElem?_toArray, List.getElem?_cons_zero, List.getElem?_cons_succ, Option.some.injEq] at ho; subst ho; refine ⟨?_, Or.inl ⟨by rfl, fun W hSW => ?_⟩, ?_⟩; rotate_left; (focus (go_simp; first | done | with_reducible rfl)); try simp only [Act.put, List.setIfInBounds_toArray, List.set_cons_zero, List.set_cons_succ])
  (refine wpSeq_fix rfl rfl ?_; intro o ho; simp only [List.getElem?_toArray, List.getElem?_cons_zero, List.getElem?_cons_succ, Option.some.injEq] at ho; subst ho; intro K hK)
  go_simp
  refine (csame_any V cs A1 A2 c3 c4 _ (by omega) HLS.out HCL.out HDL.out).mono ?_
  rintro e w6 ⟨rfl, hb⟩
  replace HL := Lib.hid (HL.out.step hb); replace HG := Lib.hid (HG.out.step hb); replace HK := Lib.hid (HK.out.step hb); replace HJ := Lib.hid (HJ.out.step hb)
  clear hb
  (refine hK.out _ _ (fun _ => ⟨HG.out.c0, HG.out.c1, HK.out.cell 0, HK.out.cell 1, HJ.out.cell 0, HJ.out.cell 1⟩) ?_; clear hK K; try simp only [Act.put, List.setIfInBounds_toArray, List.set_cons_zero, List.set_cons_succ])
  (refine wpSeq_mov rfl rfl ?_; intro o ho; simp only [List.getElem?_toArray, List.getElem?_cons_zero, List.getElem?_cons_succ, Option.some.injEq] at ho; subst ho; refine ⟨?_, Or.inl ⟨by rfl, fun W hSW => ?_⟩, ?_⟩; rotate_left; (focus (go_simp; first | done | with_reducible rfl)); try simp only [Act.put, List.setIfInBounds_toArray, List.set_cons_zero, List.set_cons_succ])
  (refine wpSeq_mov rfl rfl ?_; intro o ho; simp only [List.getElem?_toArray, List.getElem?_cons_zero, List.getElem?_cons_succ, Option.some.injEq] at ho; subst ho; refine ⟨?_, Or.inl ⟨by rfl, fun W hSW => ?_⟩, ?_⟩; rotate_left; (focus (go_simp; first | done | with_reducible rfl)); try simp only [Act.put, List.setIfInBounds_toArray, List.set_cons_zero, List.set_cons_succ])
  (refine wpSeq_mov rfl rfl ?_; intro o ho; simp only [List.getElem?_toArray, List.getElem?_cons_zero, List.getElem?_cons_succ, Option.some.injEq] at ho; subst ho; refine ⟨?_, Or.inl ⟨by rfl, fun W hSW => ?_⟩, ?_⟩; rotate_left; (focus (go_simp; first | done | with_reducible rfl)); try simp only [Act.put, List.setIfInBounds_toArray, List.set_cons_zero, List.set_cons_succ])
  (refine wpSeq_mov rfl rfl ?_; intro o ho; simp only [List.getElem?_toArray, List.getElem?_cons_zero, List.getElem?_cons_succ, Option.some.injEq] at ho; subst ho; refine ⟨?_, Or.inl ⟨by rfl, fun W hSW => ?_⟩, ?_⟩; rotate_left; (focus (go_simp; first | done | with_reducible rfl)); try simp only [Act.put, List.setIfInBounds_toArray, List.set_cons_zero, List.set_cons_succ])
  (refine wpSeq_mov rfl rfl ?_; intro o ho; simp only [List.getElem?_toArray, List.getElem?_cons_zero, List.getElem?_cons_succ, Option.some.injEq] at ho; subst ho; refine ⟨?_, Or.inl ⟨by rfl, fun W hSW => ?_⟩, ?_⟩; rotate_left; (focus (go_simp; first | done | with_reducible rfl)); try simp only [Act.put, List.setIfInBounds_toArray, List.set_cons_zero, List.set_cons_succ])
  (refine wpSeq_fix rfl rfl ?_; intro o ho; simp only [List.getElem?_toArray, List.getElem?_cons_zero, List.getElem?_cons_succ, Option.some.injEq] at ho; subst ho; intro K hK)
  go_simp
  refine (rvars_any _ _ _ _ _ n0 (by omega) (by omega)).mono ?_
  rintro e w7 ⟨rfl, hb⟩
  replace HL := Lib.hid (HL.out.step hb); replace HG := Lib.hid (HG.out.step hb); replace HK := Lib.hid (HK.out.step hb); replace HJ := Lib.hid (HJ.out.step hb)
  clear hb
  (refine hK.out _ _ (fun _ => ⟨HG.out.c0, HG.out.c1, HK.out.cell 0, HK.out.cell 1, HJ.out.cell 0, HJ.out.cell 1⟩) ?_; clear hK K; try simp only [Act.put, List.setIfInBounds_toArray, List.set_cons_zero, List.set_cons_succ])
  (refine wpSeq_mov rfl rfl ?_; intro o ho; simp only [List.getElem?_toArray, List.getElem?_cons_zero, List.getElem?_cons_succ, Option.some.injEq] at ho; subst ho; refine ⟨?_, Or.inl ⟨by rfl, fun W hSW => ?_⟩, ?_⟩; rotate_left; (focus (go_simp; first | done | with_reducible rfl)); try simp only [Act.put, List.setIfInBounds_toArray, List.set_cons_zero, List.set_cons_succ])
  (refine wpSeq_mov rfl rfl ?_; intro o ho; simp only [List.getElem?_toArray, List.getElem?_cons_zero, List.getElem?_cons_succ, Option.some.injEq] at ho; subst ho; refine ⟨?_, Or.inl ⟨by rfl, fun W hSW => ?_⟩, ?_⟩; rotate_left; (focus (go_simp; first | done | with_reducible rfl)); try simp only [Act.put, List.setIfInBounds_toArray, List.set_cons_zero, List.set_cons_succ])
  (refine wpSeq_mov rfl rfl ?_; intro o ho; simp only [List.getElem?_toArray, List.getElem?_cons_zero, List.getElem?_cons_succ, Option.some.injEq] at ho; subst ho; refine ⟨?_, Or.inl ⟨by rfl, fun W hSW => ?_⟩, ?_⟩; rotate_left; (focus (go_simp; first | done | with_reducible rfl)); try simp only [Act.put, List.setIfInBounds_toArray, List.set_cons_zero, List.set_cons_succ])
  refine wpSeq_done ?_
  go_wp2_with fail
  go_ret
  exact ⟨rfl, HL.out.b⟩
end Go.Proofs.Ytbdhkagcbncefaa
