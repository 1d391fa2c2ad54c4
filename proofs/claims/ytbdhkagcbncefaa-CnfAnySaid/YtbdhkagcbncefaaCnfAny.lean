/- CnfAny's walk. -/
import Derived.Test.YtbdhkagcbncefaaG4
import Derived.Test.YtbdhkagcbncefaaG3
set_option linter.unusedVariables false
set_option linter.unusedSimpArgs false
namespace Go.Proofs.Ytbdhkagcbncefaa
open Go.RowKit Go.Maps

set_option maxRecDepth 100000 in
set_option maxHeartbeats 4000000 in
theorem cnfAny_any (g : Gr) (A : Option Addr) (c : Nat) (l V : Int) (cs : List (List Int)) (C : Option Addr) (cc : Nat) (m : List Bool) (D : Option Addr) (d : Nat) (w : World) (hg : GOk g) (hc : g.as.length ≤ c) (hp : Prs w w.heap.size A g.as)
    (hl : -9223372036854775808 ≤ l ∧ l ≤ 9223372036854775807) (hcx : ∀ x ∈ cs, x.length ≤ 140737488355328) (hccl : cs.length ≤ 140737488355328) (hcs : Cls w w.heap.size C cs) (hd : m.length ≤ d) (hdl : d ≤ 140737488355328) (hm : Vals w w.heap.size D (m.map (.bool ·))) :
    Calls Try.prog 15 #[.agg #[.int .i64 g.n, .slice A g.as.length c], .int .i64 l, .agg #[.int .i64 V, .slice C cs.length cc], .slice D m.length d] w (Ret w (.bool true)) := by
  have hnot := @not_run Try.prog
  obtain ⟨l0, l1⟩ := hl
  have hal : g.as.length ≤ 8796093022208 := hg.2.1
  have HGO := Lib.hid hg
  have HCX := Lib.hid hcx
  have hmm : Vals w w.heap.size D (bools m) := hm
  have HG : Hid (GBox ((w.alloc (.cells #[.int .i64 g.n, .slice A g.as.length c] 24)).alloc (.cells #[.int .i64 V, .slice C cs.length cc] 57)) w.heap.size g A c) := (GBox.new hc hp).alloc _
  have HQ := Lib.hid (BlkF.new (w.alloc (.cells #[.int .i64 g.n, .slice A g.as.length c] 24)) 57 #[.int .i64 V, .slice C cs.length cc])
  rw [World.size_alloc] at HQ
  have hb := step2 (stepA w (.cells #[.int .i64 g.n, .slice A g.as.length c] 24)) (stepA _ (.cells #[.int .i64 V, .slice C cs.length cc] 57))
  have HL := Lib.hid ((Low.refl w).step hb)
  have HCS := Lib.hid (hcs.after hb)
  have HMM : Hid (ValsF _ D (bools m)) := ⟨hmm.after hb⟩
  have HR1 := Lib.hid (fun (W : World) (k2 : Prs W W.heap.size A g.as) => cof_any g l A c W HGO.out l1 k2)
  have HR2 := Lib.hid (fun (W : World) (k2 : Prs W W.heap.size A g.as) => rcof_any g l A c W HGO.out l1 k2)
  have c0 := HG.out.c0
  have c1 := HG.out.c1
  have k0 := HQ.out.cell 0
  have k1 := HQ.out.cell 1
  clear hg hcx hm hmm hcs hp hb
  by_cases h1 : g.as.length ≤ 60
  · have h1' : ¬ ((60 : Int) < (g.as.length : Int)) := by omega
    by_cases h2 : cs.length ≤ 100
    · have h2' : ¬ ((100 : Int) < (cs.length : Int)) := by omega
      by_cases h3 : m.length ≤ 100
      · have h3' : ¬ ((100 : Int) < (m.length : Int)) := by omega
        have r2 := cnfG_len g l
        have HSM := Lib.hid (cnfG_small g l)
        generalize cnfG g l = r at HR1 HR2 r2 HSM
        have hml : m.length ≤ 140737488355328 := by omega
        have hcsl : cs.length ≤ 140737488355328 := by omega
        have hrl : r.2.1.length ≤ 140737488355328 := by omega
        have HLS : Hid (∀ l ∈ r.2.1, l.length ≤ 140737488355328) := fun l hl => by have := HSM.out l hl; omega
        clear h1 h2 h3
        go_enter Try.func15, Try.ntmps15
        go_wp2_with fail
        obtain ⟨w2, hw2⟩ : ∃ w2, (w.alloc (.cells #[.int .i64 g.n, .slice A g.as.length c] 24)).alloc (.cells #[.int .i64 V, .slice C cs.length cc] 57) = w2 := ⟨_, rfl⟩
        rw [hw2] at HL HG HQ HCS HMM ⊢
        clear hw2 c0 c1 k0 k1
        go_loopw [9] (fun i wr => ∃ k : Nat, k ≤ cs.length ∧ i = .int .i64 k ∧ Low w2 wr) (fun i _ => cs.length - (intOf i).toNat)
        case atStart => exact ⟨0, Nat.zero_le _, rfl, Low.refl _⟩
        case round =>
          obtain ⟨k, hk, rfl, hlow⟩ := hrel
          replace HL := Lib.hid (HL.out.step hlow.b); replace HG := Lib.hid (HG.out.step hlow.b); replace HQ := Lib.hid (HQ.out.step hlow.b); replace HMM := Lib.hid (HMM.out.step hlow.b)
          replace HCS := Lib.hid (HCS.out.after hlow.b)
          have HW := Lib.hid hlow
          clear hlow
          have c0 := HG.out.c0
          have c1 := HG.out.c1
          have k0 := HQ.out.cell 0
          have k1 := HQ.out.cell 1
          by_cases hlt : k < cs.length
          · have hlt' : (k : Int) < (cs.length : Int) := by omega
            obtain ⟨x, hxj⟩ : ∃ x, cs[k]? = some x := ⟨_, List.getElem?_eq_getElem hlt⟩
            obtain ⟨b', o', D', d', rfl, _, hcx, hd', hvx⟩ := HCS.out k x hxj
            have hxl := HCX.out x (List.mem_of_getElem? hxj)
            clear hxj hvx
            by_cases h4 : x.length ≤ 100
            · have h4' : ¬ ((100 : Int) < (x.length : Int)) := by omega
              clear h4
              go_wp2_with fail
              go_roundw
              case rel => exact ⟨k + 1, by omega, by go_num, HW.out⟩
              case measure => simp [intOf]; omega
            · have h4' : (100 : Int) < (x.length : Int) := by omega
              clear h4
              go_wp2_with fail
              refine (awake14_any _).mono ?_
              rintro e w3 ⟨rfl, hb⟩
              go_wp2_with fail
              go_ret
              exact ⟨rfl, (HL.out.step hb).b⟩
          · have hlt' : ¬ ((k : Int) < (cs.length : Int)) := by omega
            clear hlt
            go_wp2_with fail
            refine (HR1.out _ HG.out.prs).mono ?_
            rintro e w3 ⟨A1, c3, rfl, hc3, hcl, hb⟩
            replace HL := Lib.hid (HL.out.step hb); replace HG := Lib.hid (HG.out.step hb); replace HQ := Lib.hid (HQ.out.step hb); replace HMM := Lib.hid (HMM.out.step hb)
            replace HCS := Lib.hid (HCS.out.after hb)
            have HCL : Hid (Cls _ _ A1 _) := hcl.after (stepA w3 (.cells #[.int .i64 r.1, .slice A1 r.2.1.length c3] 57))
            have HK := Lib.hid (BlkF.new w3 57 #[.int .i64 r.1, .slice A1 r.2.1.length c3])
            replace HL := Lib.hid (HL.out.step (stepA w3 (.cells #[.int .i64 r.1, .slice A1 r.2.1.length c3] 57))); replace HG := Lib.hid (HG.out.step (stepA w3 (.cells #[.int .i64 r.1, .slice A1 r.2.1.length c3] 57))); replace HQ := Lib.hid (HQ.out.step (stepA w3 (.cells #[.int .i64 r.1, .slice A1 r.2.1.length c3] 57))); replace HMM := Lib.hid (HMM.out.step (stepA w3 (.cells #[.int .i64 r.1, .slice A1 r.2.1.length c3] 57)))
            replace HCS := Lib.hid (HCS.out.after (stepA w3 (.cells #[.int .i64 r.1, .slice A1 r.2.1.length c3] 57)))
            clear hcl hb c0 c1 k0 k1 HR1
            have c0 := HG.out.c0
            have c1 := HG.out.c1
            go_wp2_with fail
            refine (HR2.out _ HG.out.prs).mono ?_
            rintro e w4 ⟨A2, c4, rfl, hc4, hcl, hb⟩
            replace HL := Lib.hid (HL.out.step hb); replace HG := Lib.hid (HG.out.step hb); replace HQ := Lib.hid (HQ.out.step hb); replace HMM := Lib.hid (HMM.out.step hb); replace HK := Lib.hid (HK.out.step hb)
            replace HCS := Lib.hid (HCS.out.after hb)
            replace HCL := Lib.hid (HCL.out.after hb)
            have HDL : Hid (Cls _ _ A2 _) := hcl.after (stepA w4 (.cells #[.int .i64 r.1, .slice A2 r.2.1.length c4] 57))
            have HJ := Lib.hid (BlkF.new w4 57 #[.int .i64 r.1, .slice A2 r.2.1.length c4])
            replace HL := Lib.hid (HL.out.step (stepA w4 (.cells #[.int .i64 r.1, .slice A2 r.2.1.length c4] 57))); replace HG := Lib.hid (HG.out.step (stepA w4 (.cells #[.int .i64 r.1, .slice A2 r.2.1.length c4] 57))); replace HQ := Lib.hid (HQ.out.step (stepA w4 (.cells #[.int .i64 r.1, .slice A2 r.2.1.length c4] 57))); replace HMM := Lib.hid (HMM.out.step (stepA w4 (.cells #[.int .i64 r.1, .slice A2 r.2.1.length c4] 57))); replace HK := Lib.hid (HK.out.step (stepA w4 (.cells #[.int .i64 r.1, .slice A2 r.2.1.length c4] 57)))
            replace HCS := Lib.hid (HCS.out.after (stepA w4 (.cells #[.int .i64 r.1, .slice A2 r.2.1.length c4] 57)))
            replace HCL := Lib.hid (HCL.out.after (stepA w4 (.cells #[.int .i64 r.1, .slice A2 r.2.1.length c4] 57)))
            clear hcl hb c0 c1 HR2 HG
            by_cases h5 : l < 0
            · go_wp2_with fail
              replace HL := Lib.hid (HL.out.step (stepD1 _)); replace HQ := Lib.hid (HQ.out.step (stepD1 _)); replace HK := Lib.hid (HK.out.step (stepD1 _)); replace HJ := Lib.hid (HJ.out.step (stepD1 _)); replace HMM := Lib.hid (HMM.out.step (stepD1 _))
              replace HCS := Lib.hid (HCS.out.after (stepD1 _))
              replace HCL := Lib.hid (HCL.out.after (stepD1 _))
              replace HDL := Lib.hid (HDL.out.after (stepD1 _))
              refine wp_region_noPanic ?_
              refine wp_region_seq (fun W => W.cell? ⟨w.heap.size + 1, 0, none⟩ = some (.int .i64 V) ∧ W.cell? ⟨w.heap.size + 1, 1, none⟩ = some (.slice C cs.length cc) ∧ W.cell? ⟨w3.heap.size, 0, none⟩ = some (.int .i64 r.1) ∧ W.cell? ⟨w3.heap.size, 1, none⟩ = some (.slice A1 r.2.1.length c3) ∧ W.cell? ⟨w4.heap.size, 0, none⟩ = some (.int .i64 r.1) ∧ W.cell? ⟨w4.heap.size, 1, none⟩ = some (.slice A2 r.2.1.length c4)) [0, 1, 2, 3, 4, 5, 6, 7, 8, 9, 10, 11, 12, 13, 15, 16, 14, 17, 18, 19, 20, 21, 22, 23, 24, 26, 25, 27, 28, 29, 30, 31] [1, 2, 3, 5, 6, 7, 8, 9, 10, 11, 12, 13, 15, 16, 18, 19, 20, 21, 22, 23, 24, 26, 28, 29, 30, 31] [] (by kernel_rfl) (by kernel_rfl) rfl (by kernel_rfl) (by kernel_rfl) (fun _ _ _ _ _ h => h) ?_ (fun hSS => ?_)
              · exact ⟨HQ.out.cell 0, HQ.out.cell 1, HK.out.cell 0, HK.out.cell 1, HJ.out.cell 0, HJ.out.cell 1⟩
              clear hSS
              (refine wpSeq_fix rfl rfl ?_; intro o ho; simp only [List.getElem?_toArray, List.getElem?_cons_zero, List.getElem?_cons_succ, Option.some.injEq] at ho; subst ho; intro K hK)
              go_simp
              refine (awake14_any _).mono ?_
              rintro e w5 ⟨rfl, hb⟩
              replace HL := Lib.hid (HL.out.step hb); replace HQ := Lib.hid (HQ.out.step hb); replace HK := Lib.hid (HK.out.step hb); replace HJ := Lib.hid (HJ.out.step hb); replace HMM := Lib.hid (HMM.out.step hb)
              replace HCS := Lib.hid (HCS.out.after hb)
              replace HCL := Lib.hid (HCL.out.after hb)
              replace HDL := Lib.hid (HDL.out.after hb)
              clear hb
              (refine hK.out _ _ (fun _ => ⟨HQ.out.cell 0, HQ.out.cell 1, HK.out.cell 0, HK.out.cell 1, HJ.out.cell 0, HJ.out.cell 1⟩) ?_; clear hK K; try simp only [Act.put, List.setIfInBounds_toArray, List.set_cons_zero, List.set_cons_succ])
              (refine wpSeq_mov rfl rfl ?_; intro o ho; simp only [List.getElem?_toArray, List.getElem?_cons_zero, List.getElem?_cons_succ, Option.some.injEq] at ho; subst ho; refine ⟨?_, Or.inl ⟨by rfl, fun W hSW => ?_⟩, ?_⟩; rotate_left; (focus (go_simp; first | done | with_reducible rfl)); try simp only [Act.put, List.setIfInBounds_toArray, List.set_cons_zero, List.set_cons_succ])
              (refine wpSeq_mov rfl rfl ?_; intro o ho; simp only [List.getElem?_toArray, List.getElem?_cons_zero, List.getElem?_cons_succ, Option.some.injEq] at ho; subst ho; refine ⟨?_, Or.inl ⟨by rfl, fun W hSW => ?_⟩, ?_⟩; rotate_left; (focus (go_simp; first | done | with_reducible rfl)); try simp only [Act.put, List.setIfInBounds_toArray, List.set_cons_zero, List.set_cons_succ])
              (refine wpSeq_mov rfl rfl ?_; intro o ho; simp only [List.getElem?_toArray, List.getElem?_cons_zero, List.getElem?_cons_succ, Option.some.injEq] at ho; subst ho; refine ⟨?_, Or.inl ⟨by rfl, fun W hSW => ?_⟩, ?_⟩; rotate_left; (focus (go_simp; first | done | with_reducible rfl)); try simp only [Act.put, List.setIfInBounds_toArray, List.set_cons_zero, List.set_cons_succ])
              (refine wpSeq_fix rfl rfl ?_; intro o ho; simp only [List.getElem?_toArray, List.getElem?_cons_zero, List.getElem?_cons_succ, Option.some.injEq] at ho; subst ho; intro K hK)
              go_simp
              refine (csame_any r.1 r.2.1 A1 A2 c3 c4 _ hrl HLS.out HCL.out HDL.out).mono ?_
              rintro e w6 ⟨rfl, hb⟩
              replace HL := Lib.hid (HL.out.step hb); replace HQ := Lib.hid (HQ.out.step hb); replace HK := Lib.hid (HK.out.step hb); replace HJ := Lib.hid (HJ.out.step hb); replace HMM := Lib.hid (HMM.out.step hb)
              replace HCS := Lib.hid (HCS.out.after hb)
              clear hb
              (refine hK.out _ _ (fun _ => ⟨HQ.out.cell 0, HQ.out.cell 1, HK.out.cell 0, HK.out.cell 1, HJ.out.cell 0, HJ.out.cell 1⟩) ?_; clear hK K; try simp only [Act.put, List.setIfInBounds_toArray, List.set_cons_zero, List.set_cons_succ])
              (refine wpSeq_mov rfl rfl ?_; intro o ho; simp only [List.getElem?_toArray, List.getElem?_cons_zero, List.getElem?_cons_succ, Option.some.injEq] at ho; subst ho; refine ⟨?_, Or.inl ⟨by rfl, fun W hSW => ?_⟩, ?_⟩; rotate_left; (focus (go_simp; first | done | with_reducible rfl)); try simp only [Act.put, List.setIfInBounds_toArray, List.set_cons_zero, List.set_cons_succ])
              (refine wpSeq_mov rfl rfl ?_; intro o ho; simp only [List.getElem?_toArray, List.getElem?_cons_zero, List.getElem?_cons_succ, Option.some.injEq] at ho; subst ho; refine ⟨?_, Or.inl ⟨by rfl, fun W hSW => ?_⟩, ?_⟩; rotate_left; (focus (go_simp; first | done | with_reducible rfl)); try simp only [Act.put, List.setIfInBounds_toArray, List.set_cons_zero, List.set_cons_succ])
              (refine wpSeq_mov rfl rfl ?_; intro o ho; simp only [List.getElem?_toArray, List.getElem?_cons_zero, List.getElem?_cons_succ, Option.some.injEq] at ho; subst ho; refine ⟨?_, Or.inl ⟨by rfl, fun W hSW => ?_⟩, ?_⟩; rotate_left; (focus (go_simp; first | done | with_reducible rfl)); try simp only [Act.put, List.setIfInBounds_toArray, List.set_cons_zero, List.set_cons_succ])
              (refine wpSeq_mov rfl rfl ?_; intro o ho; simp only [List.getElem?_toArray, List.getElem?_cons_zero, List.getElem?_cons_succ, Option.some.injEq] at ho; subst ho; refine ⟨?_, Or.inl ⟨by rfl, fun W hSW => ?_⟩, ?_⟩; rotate_left; (focus (go_simp; first | done | with_reducible rfl)); try simp only [Act.put, List.setIfInBounds_toArray, List.set_cons_zero, List.set_cons_succ])
              (refine wpSeq_mov rfl rfl ?_; intro o ho; simp only [List.getElem?_toArray, List.getElem?_cons_zero, List.getElem?_cons_succ, Option.some.injEq] at ho; subst ho; refine ⟨?_, Or.inl ⟨by rfl, fun W hSW => ?_⟩, ?_⟩; rotate_left; (focus (go_simp; first | done | with_reducible rfl)); try simp only [Act.put, List.setIfInBounds_toArray, List.set_cons_zero, List.set_cons_succ])
              (refine wpSeq_mov rfl rfl ?_; intro o ho; simp only [List.getElem?_toArray, List.getElem?_cons_zero, List.getElem?_cons_succ, Option.some.injEq] at ho; subst ho; refine ⟨?_, Or.inl ⟨by rfl, fun W hSW => ?_⟩, ?_⟩; rotate_left; (focus (go_simp; first | done | with_reducible rfl)); try simp only [Act.put, List.setIfInBounds_toArray, List.set_cons_zero, List.set_cons_succ])
              (refine wpSeq_mov rfl rfl ?_; intro o ho; simp only [List.getElem?_toArray, List.getElem?_cons_zero, List.getElem?_cons_succ, Option.some.injEq] at ho; subst ho; refine ⟨?_, Or.inl ⟨by rfl, fun W hSW => ?_⟩, ?_⟩; rotate_left; (focus (go_simp; first | done | with_reducible rfl)); try simp only [Act.put, List.setIfInBounds_toArray, List.set_cons_zero, List.set_cons_succ])
              (refine wpSeq_mov rfl rfl ?_; intro o ho; simp only [List.getElem?_toArray, List.getElem?_cons_zero, List.getElem?_cons_succ, Option.some.injEq] at ho; subst ho; refine ⟨?_, Or.inl ⟨by rfl, fun W hSW => ?_⟩, ?_⟩; rotate_left; (focus (go_simp; first | done | with_reducible rfl)); try simp only [Act.put, List.setIfInBounds_toArray, List.set_cons_zero, List.set_cons_succ])
              (refine wpSeq_mov rfl rfl ?_; intro o ho; simp only [List.getElem?_toArray, List.getElem?_cons_zero, List.getElem?_cons_succ, Option.some.injEq] at ho; subst ho; refine ⟨?_, Or.inl ⟨by rfl, fun W hSW => ?_⟩, ?_⟩; rotate_left; (focus (go_simp; first | done | with_reducible rfl)); try simp only [Act.put, List.setIfInBounds_toArray, List.set_cons_zero, List.set_cons_succ])
              (refine wpSeq_mov rfl rfl ?_; intro o ho; simp only [List.getElem?_toArray, List.getElem?_cons_zero, List.getElem?_cons_succ, Option.some.injEq] at ho; subst ho; refine ⟨?_, Or.inl ⟨by rfl, fun W hSW => ?_⟩, ?_⟩; rotate_left; (focus (go_simp; first | done | with_reducible rfl)); try simp only [Act.put, List.setIfInBounds_toArray, List.set_cons_zero, List.set_cons_succ])
              (refine wpSeq_mov rfl rfl ?_; intro o ho; simp only [List.getElem?_toArray, List.getElem?_cons_zero, List.getElem?_cons_succ, Option.some.injEq] at ho; subst ho; refine ⟨?_, Or.inl ⟨by rfl, fun W hSW => ?_⟩, ?_⟩; rotate_left; (focus (go_simp; first | done | with_reducible rfl)); try simp only [Act.put, List.setIfInBounds_toArray, List.set_cons_zero, List.set_cons_succ])
              (refine wpSeq_fix rfl rfl ?_; intro o ho; simp only [List.getElem?_toArray, List.getElem?_cons_zero, List.getElem?_cons_succ, Option.some.injEq] at ho; subst ho; intro K hK)
              go_simp
              refine (cso_any V cs m C D cc d _ hcsl HCX.out hml HCS.out HMM.out.p).mono ?_
              rintro e w7 ⟨rfl, hb⟩
              replace HL := Lib.hid (HL.out.step hb); replace HQ := Lib.hid (HQ.out.step hb); replace HK := Lib.hid (HK.out.step hb); replace HJ := Lib.hid (HJ.out.step hb); replace HMM := Lib.hid (HMM.out.step hb)
              replace HCS := Lib.hid (HCS.out.after hb)
              clear hb
              (refine hK.out _ _ (fun _ => ⟨HQ.out.cell 0, HQ.out.cell 1, HK.out.cell 0, HK.out.cell 1, HJ.out.cell 0, HJ.out.cell 1⟩) ?_; clear hK K; try simp only [Act.put, List.setIfInBounds_toArray, List.set_cons_zero, List.set_cons_succ])
              (refine wpSeq_fix rfl rfl ?_; intro o ho; simp only [List.getElem?_toArray, List.getElem?_cons_zero, List.getElem?_cons_succ, Option.some.injEq] at ho; subst ho; intro K hK)
              go_simp
              refine (rcso_any V cs m C D cc d _ hcsl HCX.out hml HCS.out HMM.out.p).mono ?_
              rintro e w8 ⟨rfl, hb⟩
              replace HL := Lib.hid (HL.out.step hb); replace HQ := Lib.hid (HQ.out.step hb); replace HK := Lib.hid (HK.out.step hb); replace HJ := Lib.hid (HJ.out.step hb); replace HMM := Lib.hid (HMM.out.step hb)
              clear hb
              (refine hK.out _ _ (fun _ => ⟨HQ.out.cell 0, HQ.out.cell 1, HK.out.cell 0, HK.out.cell 1, HJ.out.cell 0, HJ.out.cell 1⟩) ?_; clear hK K; try simp only [Act.put, List.setIfInBounds_toArray, List.set_cons_zero, List.set_cons_succ])
              (refine wpSeq_mov rfl rfl ?_; intro o ho; simp only [List.getElem?_toArray, List.getElem?_cons_zero, List.getElem?_cons_succ, Option.some.injEq] at ho; subst ho; refine ⟨?_, Or.inl ⟨by rfl, fun W hSW => ?_⟩, ?_⟩; rotate_left; (focus (go_simp; first | done | with_reducible rfl)); try simp only [Act.put, List.setIfInBounds_toArray, List.set_cons_zero, List.set_cons_succ])
              (refine wpSeq_mov rfl rfl ?_; intro o ho; simp only [List.getElem?_toArray, List.getElem?_cons_zero, List.getElem?_cons_succ, Option.some.injEq] at ho; subst ho; refine ⟨?_, Or.inl ⟨by rfl, fun W hSW => ?_⟩, ?_⟩; rotate_left; (focus (go_simp; first | done | with_reducible rfl)); try simp only [Act.put, List.setIfInBounds_toArray, List.set_cons_zero, List.set_cons_succ])
              (refine wpSeq_mov rfl rfl ?_; intro o ho; simp only [List.getElem?_toArray, List.getElem?_cons_zero, List.getElem?_cons_succ, Option.some.injEq] at ho; subst ho; refine ⟨?_, Or.inl ⟨by rfl, fun W hSW => ?_⟩, ?_⟩; rotate_left; (focus (go_simp; first | done | with_reducible rfl)); try simp only [Act.put, List.setIfInBounds_toArray, List.set_cons_zero, List.set_cons_succ])
              (refine wpSeq_mov rfl rfl ?_; intro o ho; simp only [List.getElem?_toArray, List.getElem?_cons_zero, List.getElem?_cons_succ, Option.some.injEq] at ho; subst ho; refine ⟨?_, Or.inl ⟨by rfl, fun W hSW => ?_⟩, ?_⟩; rotate_left; (focus (go_simp; first | done | with_reducible rfl)); try simp only [Act.put, List.setIfInBounds_toArray, List.set_cons_zero, List.set_cons_succ])
              (refine wpSeq_mov rfl rfl ?_; intro o ho; simp only [List.getElem?_toArray, List.getElem?_cons_zero, List.getElem?_cons_succ, Option.some.injEq] at ho; subst ho; refine ⟨?_, Or.inl ⟨by rfl, fun W hSW => ?_⟩, ?_⟩; rotate_left; (focus (go_simp; first | done | with_reducible rfl)); try simp only [Act.put, List.setIfInBounds_toArray, List.set_cons_zero, List.set_cons_succ])
              (refine wpSeq_mov rfl rfl ?_; intro o ho; simp only [List.getElem?_toArray, List.getElem?_cons_zero, List.getElem?_cons_succ, Option.some.injEq] at ho; subst ho; refine ⟨?_, Or.inl ⟨by rfl, fun W hSW => ?_⟩, ?_⟩; rotate_left; (focus (go_simp; first | done | with_reducible rfl)); try simp only [Act.put, List.setIfInBounds_toArray, List.set_cons_zero, List.set_cons_succ])
              (refine wpSeq_mov rfl rfl ?_; intro o ho; simp only [List.getElem?_toArray, List.getElem?_cons_zero, List.getElem?_cons_succ, Option.some.injEq] at ho; subst ho; refine ⟨undef, Or.inr ⟨by rfl, rfl⟩, ?_⟩; try simp only [Act.put, List.setIfInBounds_toArray, List.set_cons_zero, List.set_cons_succ])
              (refine wpSeq_mov rfl rfl ?_; intro o ho; simp only [List.getElem?_toArray, List.getElem?_cons_zero, List.getElem?_cons_succ, Option.some.injEq] at ho; subst ho; refine ⟨undef, Or.inr ⟨by rfl, rfl⟩, ?_⟩; try simp only [Act.put, List.setIfInBounds_toArray, List.set_cons_zero, List.set_cons_succ])
              (refine wpSeq_fix rfl rfl ?_; intro o ho; simp only [List.getElem?_toArray, List.getElem?_cons_zero, List.getElem?_cons_succ, Option.some.injEq] at ho; subst ho; intro K hK)
              go_simp
              (refine hK.out _ _ (fun _ => ⟨HQ.out.cell 0, HQ.out.cell 1, HK.out.cell 0, HK.out.cell 1, HJ.out.cell 0, HJ.out.cell 1⟩) ?_; clear hK K; try simp only [Act.put, List.setIfInBounds_toArray, List.set_cons_zero, List.set_cons_succ])
              (refine wpSeq_fix rfl rfl ?_; intro o ho; simp only [List.getElem?_toArray, List.getElem?_cons_zero, List.getElem?_cons_succ, Option.some.injEq] at ho; subst ho; intro K hK)
              go_simp
              (refine hK.out _ _ (fun _ => ⟨HQ.out.cell 0, HQ.out.cell 1, HK.out.cell 0, HK.out.cell 1, HJ.out.cell 0, HJ.out.cell 1⟩) ?_; clear hK K; try simp only [Act.put, List.setIfInBounds_toArray, List.set_cons_zero, List.set_cons_succ])
              (refine wpSeq_mov rfl rfl ?_; intro o ho; simp only [List.getElem?_toArray, List.getElem?_cons_zero, List.getElem?_cons_succ, Option.some.injEq] at ho; subst ho; refine ⟨undef, Or.inr ⟨by rfl, rfl⟩, ?_⟩; try simp only [Act.put, List.setIfInBounds_toArray, List.set_cons_zero, List.set_cons_succ])
              (refine wpSeq_mov rfl rfl ?_; intro o ho; simp only [List.getElem?_toArray, List.getElem?_cons_zero, List.getElem?_cons_succ, Option.some.injEq] at ho; subst ho; refine ⟨?_, Or.inl ⟨by rfl, fun W hSW => ?_⟩, ?_⟩; rotate_left; (focus (go_simp; first | done | with_reducible rfl)); try simp only [Act.put, List.setIfInBounds_toArray, List.set_cons_zero, List.set_cons_succ])
              (refine wpSeq_mov rfl rfl ?_; intro o ho; simp only [List.getElem?_toArray, List.getElem?_cons_zero, List.getElem?_cons_succ, Option.some.injEq] at ho; subst ho; refine ⟨?_, Or.inl ⟨by rfl, fun W hSW => ?_⟩, ?_⟩; rotate_left; (focus (go_simp; first | done | with_reducible rfl)); try simp only [Act.put, List.setIfInBounds_toArray, List.set_cons_zero, List.set_cons_succ])
              (refine wpSeq_mov rfl rfl ?_; intro o ho; simp only [List.getElem?_toArray, List.getElem?_cons_zero, List.getElem?_cons_succ, Option.some.injEq] at ho; subst ho; refine ⟨?_, Or.inl ⟨by rfl, fun W hSW => ?_⟩, ?_⟩; rotate_left; (focus (go_simp; first | done | with_reducible rfl)); try simp only [Act.put, List.setIfInBounds_toArray, List.set_cons_zero, List.set_cons_succ])
              refine wpSeq_done ?_
              go_wp2_with fail
              go_ret
              exact ⟨rfl, HL.out.b⟩
            · go_wp2_with fail
              replace HL := Lib.hid (HL.out.step (stepD1 _)); replace HQ := Lib.hid (HQ.out.step (stepD1 _)); replace HK := Lib.hid (HK.out.step (stepD1 _)); replace HJ := Lib.hid (HJ.out.step (stepD1 _)); replace HMM := Lib.hid (HMM.out.step (stepD1 _))
              replace HCS := Lib.hid (HCS.out.after (stepD1 _))
              replace HCL := Lib.hid (HCL.out.after (stepD1 _))
              replace HDL := Lib.hid (HDL.out.after (stepD1 _))
              refine wp_region_noPanic ?_
              refine wp_region_seq (fun W => W.cell? ⟨w.heap.size + 1, 0, none⟩ = some (.int .i64 V) ∧ W.cell? ⟨w.heap.size + 1, 1, none⟩ = some (.slice C cs.length cc) ∧ W.cell? ⟨w3.heap.size, 0, none⟩ = some (.int .i64 r.1) ∧ W.cell? ⟨w3.heap.size, 1, none⟩ = some (.slice A1 r.2.1.length c3) ∧ W.cell? ⟨w4.heap.size, 0, none⟩ = some (.int .i64 r.1) ∧ W.cell? ⟨w4.heap.size, 1, none⟩ = some (.slice A2 r.2.1.length c4)) [0, 1, 2, 3, 4, 5, 6, 7, 8, 9, 10, 11, 12, 13, 15, 16, 14, 17, 18, 19, 20, 21, 22, 23, 24, 26, 25, 27, 28, 29, 30, 31] [1, 2, 3, 5, 6, 7, 8, 9, 10, 11, 12, 13, 15, 16, 18, 19, 20, 21, 22, 23, 24, 26, 28, 29, 30, 31] [] (by kernel_rfl) (by kernel_rfl) rfl (by kernel_rfl) (by kernel_rfl) (fun _ _ _ _ _ h => h) ?_ (fun hSS => ?_)
              · exact ⟨HQ.out.cell 0, HQ.out.cell 1, HK.out.cell 0, HK.out.cell 1, HJ.out.cell 0, HJ.out.cell 1⟩
              clear hSS
              (refine wpSeq_fix rfl rfl ?_; intro o ho; simp only [List.getElem?_toArray, List.getElem?_cons_zero, List.getElem?_cons_succ, Option.some.injEq] at ho; subst ho; intro K hK)
              go_simp
              refine (awake14_any _).mono ?_
              rintro e w5 ⟨rfl, hb⟩
              replace HL := Lib.hid (HL.out.step hb); replace HQ := Lib.hid (HQ.out.step hb); replace HK := Lib.hid (HK.out.step hb); replace HJ := Lib.hid (HJ.out.step hb); replace HMM := Lib.hid (HMM.out.step hb)
              replace HCS := Lib.hid (HCS.out.after hb)
              replace HCL := Lib.hid (HCL.out.after hb)
              replace HDL := Lib.hid (HDL.out.after hb)
              clear hb
              (refine hK.out _ _ (fun _ => ⟨HQ.out.cell 0, HQ.out.cell 1, HK.out.cell 0, HK.out.cell 1, HJ.out.cell 0, HJ.out.cell 1⟩) ?_; clear hK K; try simp only [Act.put, List.setIfInBounds_toArray, List.set_cons_zero, List.set_cons_succ])
              (refine wpSeq_mov rfl rfl ?_; intro o ho; simp only [List.getElem?_toArray, List.getElem?_cons_zero, List.getElem?_cons_succ, Option.some.injEq] at ho; subst ho; refine ⟨?_, Or.inl ⟨by rfl, fun W hSW => ?_⟩, ?_⟩; rotate_left; (focus (go_simp; first | done | with_reducible rfl)); try simp only [Act.put, List.setIfInBounds_toArray, List.set_cons_zero, List.set_cons_succ])
              (refine wpSeq_mov rfl rfl ?_; intro o ho; simp only [List.getElem?_toArray, List.getElem?_cons_zero, List.getElem?_cons_succ, Option.some.injEq] at ho; subst ho; refine ⟨?_, Or.inl ⟨by rfl, fun W hSW => ?_⟩, ?_⟩; rotate_left; (focus (go_simp; first | done | with_reducible rfl)); try simp only [Act.put, List.setIfInBounds_toArray, List.set_cons_zero, List.set_cons_succ])
              (refine wpSeq_mov rfl rfl ?_; intro o ho; simp only [List.getElem?_toArray, List.getElem?_cons_zero, List.getElem?_cons_succ, Option.some.injEq] at ho; subst ho; refine ⟨?_, Or.inl ⟨by rfl, fun W hSW => ?_⟩, ?_⟩; rotate_left; (focus (go_simp; first | done | with_reducible rfl)); try simp only [Act.put, List.setIfInBounds_toArray, List.set_cons_zero, List.set_cons_succ])
              (refine wpSeq_fix rfl rfl ?_; intro o ho; simp only [List.getElem?_toArray, List.getElem?_cons_zero, List.getElem?_cons_succ, Option.some.injEq] at ho; subst ho; intro K hK)
              go_simp
              refine (csame_any r.1 r.2.1 A1 A2 c3 c4 _ hrl HLS.out HCL.out HDL.out).mono ?_
              rintro e w6 ⟨rfl, hb⟩
              replace HL := Lib.hid (HL.out.step hb); replace HQ := Lib.hid (HQ.out.step hb); replace HK := Lib.hid (HK.out.step hb); replace HJ := Lib.hid (HJ.out.step hb); replace HMM := Lib.hid (HMM.out.step hb)
              replace HCS := Lib.hid (HCS.out.after hb)
              clear hb
              (refine hK.out _ _ (fun _ => ⟨HQ.out.cell 0, HQ.out.cell 1, HK.out.cell 0, HK.out.cell 1, HJ.out.cell 0, HJ.out.cell 1⟩) ?_; clear hK K; try simp only [Act.put, List.setIfInBounds_toArray, List.set_cons_zero, List.set_cons_succ])
              (refine wpSeq_mov rfl rfl ?_; intro o ho; simp only [List.getElem?_toArray, List.getElem?_cons_zero, List.getElem?_cons_succ, Option.some.injEq] at ho; subst ho; refine ⟨?_, Or.inl ⟨by rfl, fun W hSW => ?_⟩, ?_⟩; rotate_left; (focus (go_simp; first | done | with_reducible rfl)); try simp only [Act.put, List.setIfInBounds_toArray, List.set_cons_zero, List.set_cons_succ])
              (refine wpSeq_mov rfl rfl ?_; intro o ho; simp only [List.getElem?_toArray, List.getElem?_cons_zero, List.getElem?_cons_succ, Option.some.injEq] at ho; subst ho; refine ⟨?_, Or.inl ⟨by rfl, fun W hSW => ?_⟩, ?_⟩; rotate_left; (focus (go_simp; first | done | with_reducible rfl)); try simp only [Act.put, List.setIfInBounds_toArray, List.set_cons_zero, List.set_cons_succ])
              (refine wpSeq_mov rfl rfl ?_; intro o ho; simp only [List.getElem?_toArray, List.getElem?_cons_zero, List.getElem?_cons_succ, Option.some.injEq] at ho; subst ho; refine ⟨?_, Or.inl ⟨by rfl, fun W hSW => ?_⟩, ?_⟩; rotate_left; (focus (go_simp; first | done | with_reducible rfl)); try simp only [Act.put, List.setIfInBounds_toArray, List.set_cons_zero, List.set_cons_succ])
              (refine wpSeq_mov rfl rfl ?_; intro o ho; simp only [List.getElem?_toArray, List.getElem?_cons_zero, List.getElem?_cons_succ, Option.some.injEq] at ho; subst ho; refine ⟨?_, Or.inl ⟨by rfl, fun W hSW => ?_⟩, ?_⟩; rotate_left; (focus (go_simp; first | done | with_reducible rfl)); try simp only [Act.put, List.setIfInBounds_toArray, List.set_cons_zero, List.set_cons_succ])
              (refine wpSeq_mov rfl rfl ?_; intro o ho; simp only [List.getElem?_toArray, List.getElem?_cons_zero, List.getElem?_cons_succ, Option.some.injEq] at ho; subst ho; refine ⟨?_, Or.inl ⟨by rfl, fun W hSW => ?_⟩, ?_⟩; rotate_left; (focus (go_simp; first | done | with_reducible rfl)); try simp only [Act.put, List.setIfInBounds_toArray, List.set_cons_zero, List.set_cons_succ])
              (refine wpSeq_mov rfl rfl ?_; intro o ho; simp only [List.getElem?_toArray, List.getElem?_cons_zero, List.getElem?_cons_succ, Option.some.injEq] at ho; subst ho; refine ⟨?_, Or.inl ⟨by rfl, fun W hSW => ?_⟩, ?_⟩; rotate_left; (focus (go_simp; first | done | with_reducible rfl)); try simp only [Act.put, List.setIfInBounds_toArray, List.set_cons_zero, List.set_cons_succ])
              (refine wpSeq_mov rfl rfl ?_; intro o ho; simp only [List.getElem?_toArray, List.getElem?_cons_zero, List.getElem?_cons_succ, Option.some.injEq] at ho; subst ho; refine ⟨?_, Or.inl ⟨by rfl, fun W hSW => ?_⟩, ?_⟩; rotate_left; (focus (go_simp; first | done | with_reducible rfl)); try simp only [Act.put, List.setIfInBounds_toArray, List.set_cons_zero, List.set_cons_succ])
              (refine wpSeq_mov rfl rfl ?_; intro o ho; simp only [List.getElem?_toArray, List.getElem?_cons_zero, List.getElem?_cons_succ, Option.some.injEq] at ho; subst ho; refine ⟨?_, Or.inl ⟨by rfl, fun W hSW => ?_⟩, ?_⟩; rotate_left; (focus (go_simp; first | done | with_reducible rfl)); try simp only [Act.put, List.setIfInBounds_toArray, List.set_cons_zero, List.set_cons_succ])
              (refine wpSeq_mov rfl rfl ?_; intro o ho; simp only [List.getElem?_toArray, List.getElem?_cons_zero, List.getElem?_cons_succ, Option.some.injEq] at ho; subst ho; refine ⟨?_, Or.inl ⟨by rfl, fun W hSW => ?_⟩, ?_⟩; rotate_left; (focus (go_simp; first | done | with_reducible rfl)); try simp only [Act.put, List.setIfInBounds_toArray, List.set_cons_zero, List.set_cons_succ])
              (refine wpSeq_mov rfl rfl ?_; intro o ho; simp only [List.getElem?_toArray, List.getElem?_cons_zero, List.getElem?_cons_succ, Option.some.injEq] at ho; subst ho; refine ⟨?_, Or.inl ⟨by rfl, fun W hSW => ?_⟩, ?_⟩; rotate_left; (focus (go_simp; first | done | with_reducible rfl)); try simp only [Act.put, List.setIfInBounds_toArray, List.set_cons_zero, List.set_cons_succ])
              (refine wpSeq_mov rfl rfl ?_; intro o ho; simp only [List.getElem?_toArray, List.getElem?_cons_zero, List.getElem?_cons_succ, Option.some.injEq] at ho; subst ho; refine ⟨?_, Or.inl ⟨by rfl, fun W hSW => ?_⟩, ?_⟩; rotate_left; (focus (go_simp; first | done | with_reducible rfl)); try simp only [Act.put, List.setIfInBounds_toArray, List.set_cons_zero, List.set_cons_succ])
              (refine wpSeq_fix rfl rfl ?_; intro o ho; simp only [List.getElem?_toArray, List.getElem?_cons_zero, List.getElem?_cons_succ, Option.some.injEq] at ho; subst ho; intro K hK)
              go_simp
              refine (cso_any V cs m C D cc d _ hcsl HCX.out hml HCS.out HMM.out.p).mono ?_
              rintro e w7 ⟨rfl, hb⟩
              replace HL := Lib.hid (HL.out.step hb); replace HQ := Lib.hid (HQ.out.step hb); replace HK := Lib.hid (HK.out.step hb); replace HJ := Lib.hid (HJ.out.step hb); replace HMM := Lib.hid (HMM.out.step hb)
              replace HCS := Lib.hid (HCS.out.after hb)
              clear hb
              (refine hK.out _ _ (fun _ => ⟨HQ.out.cell 0, HQ.out.cell 1, HK.out.cell 0, HK.out.cell 1, HJ.out.cell 0, HJ.out.cell 1⟩) ?_; clear hK K; try simp only [Act.put, List.setIfInBounds_toArray, List.set_cons_zero, List.set_cons_succ])
              (refine wpSeq_fix rfl rfl ?_; intro o ho; simp only [List.getElem?_toArray, List.getElem?_cons_zero, List.getElem?_cons_succ, Option.some.injEq] at ho; subst ho; intro K hK)
              go_simp
              refine (rcso_any V cs m C D cc d _ hcsl HCX.out hml HCS.out HMM.out.p).mono ?_
              rintro e w8 ⟨rfl, hb⟩
              replace HL := Lib.hid (HL.out.step hb); replace HQ := Lib.hid (HQ.out.step hb); replace HK := Lib.hid (HK.out.step hb); replace HJ := Lib.hid (HJ.out.step hb); replace HMM := Lib.hid (HMM.out.step hb)
              clear hb
              (refine hK.out _ _ (fun _ => ⟨HQ.out.cell 0, HQ.out.cell 1, HK.out.cell 0, HK.out.cell 1, HJ.out.cell 0, HJ.out.cell 1⟩) ?_; clear hK K; try simp only [Act.put, List.setIfInBounds_toArray, List.set_cons_zero, List.set_cons_succ])
              (refine wpSeq_mov rfl rfl ?_; intro o ho; simp only [List.getElem?_toArray, List.getElem?_cons_zero, List.getElem?_cons_succ, Option.some.injEq] at ho; subst ho; refine ⟨?_, Or.inl ⟨by rfl, fun W hSW => ?_⟩, ?_⟩; rotate_left; (focus (go_simp; first | done | with_reducible rfl)); try simp only [Act.put, List.setIfInBounds_toArray, List.set_cons_zero, List.set_cons_succ])
              (refine wpSeq_mov rfl rfl ?_; intro o ho; simp only [List.getElem?_toArray, List.getElem?_cons_zero, List.getElem?_cons_succ, Option.some.injEq] at ho; subst ho; refine ⟨?_, Or.inl ⟨by rfl, fun W hSW => ?_⟩, ?_⟩; rotate_left; (focus (go_simp; first | done | with_reducible rfl)); try simp only [Act.put, List.setIfInBounds_toArray, List.set_cons_zero, List.set_cons_succ])
              (refine wpSeq_mov rfl rfl ?_; intro o ho; simp only [List.getElem?_toArray, List.getElem?_cons_zero, List.getElem?_cons_succ, Option.some.injEq] at ho; subst ho; refine ⟨?_, Or.inl ⟨by rfl, fun W hSW => ?_⟩, ?_⟩; rotate_left; (focus (go_simp; first | done | with_reducible rfl)); try simp only [Act.put, List.setIfInBounds_toArray, List.set_cons_zero, List.set_cons_succ])
              (refine wpSeq_mov rfl rfl ?_; intro o ho; simp only [List.getElem?_toArray, List.getElem?_cons_zero, List.getElem?_cons_succ, Option.some.injEq] at ho; subst ho; refine ⟨?_, Or.inl ⟨by rfl, fun W hSW => ?_⟩, ?_⟩; rotate_left; (focus (go_simp; first | done | with_reducible rfl)); try simp only [Act.put, List.setIfInBounds_toArray, List.set_cons_zero, List.set_cons_succ])
              (refine wpSeq_mov rfl rfl ?_; intro o ho; simp only [List.getElem?_toArray, List.getElem?_cons_zero, List.getElem?_cons_succ, Option.some.injEq] at ho; subst ho; refine ⟨?_, Or.inl ⟨by rfl, fun W hSW => ?_⟩, ?_⟩; rotate_left; (focus (go_simp; first | done | with_reducible rfl)); try simp only [Act.put, List.setIfInBounds_toArray, List.set_cons_zero, List.set_cons_succ])
              (refine wpSeq_mov rfl rfl ?_; intro o ho; simp only [List.getElem?_toArray, List.getElem?_cons_zero, List.getElem?_cons_succ, Option.some.injEq] at ho; subst ho; refine ⟨?_, Or.inl ⟨by rfl, fun W hSW => ?_⟩, ?_⟩; rotate_left; (focus (go_simp; first | done | with_reducible rfl)); try simp only [Act.put, List.setIfInBounds_toArray, List.set_cons_zero, List.set_cons_succ])
              rw [decide_eq_false (show ¬ l < 0 from by omega)]
              (refine wpSeq_mov rfl rfl ?_; intro o ho; simp only [List.getElem?_toArray, List.getElem?_cons_zero, List.getElem?_cons_succ, Option.some.injEq] at ho; subst ho; refine ⟨?_, Or.inl ⟨by rfl, fun W hSW => ?_⟩, ?_⟩; rotate_left; (focus (go_simp; first | done | with_reducible rfl)); try simp only [Act.put, List.setIfInBounds_toArray, List.set_cons_zero, List.set_cons_succ])
              (refine wpSeq_mov rfl rfl ?_; intro o ho; simp only [List.getElem?_toArray, List.getElem?_cons_zero, List.getElem?_cons_succ, Option.some.injEq] at ho; subst ho; refine ⟨?_, Or.inl ⟨by rfl, fun W hSW => ?_⟩, ?_⟩; rotate_left; (focus (go_simp; first | done | with_reducible rfl)); try simp only [Act.put, List.setIfInBounds_toArray, List.set_cons_zero, List.set_cons_succ])
              (refine wpSeq_fix rfl rfl ?_; intro o ho; simp only [List.getElem?_toArray, List.getElem?_cons_zero, List.getElem?_cons_succ, Option.some.injEq] at ho; subst ho; intro K hK)
              go_simp
              refine (clit_any l _ (by omega) (by omega)).mono ?_
              rintro e w9 ⟨rfl, rfl⟩
              (refine hK.out _ _ (fun _ => ⟨HQ.out.cell 0, HQ.out.cell 1, HK.out.cell 0, HK.out.cell 1, HJ.out.cell 0, HJ.out.cell 1⟩) ?_; clear hK K; try simp only [Act.put, List.setIfInBounds_toArray, List.set_cons_zero, List.set_cons_succ])
              (refine wpSeq_fix rfl rfl ?_; intro o ho; simp only [List.getElem?_toArray, List.getElem?_cons_zero, List.getElem?_cons_succ, Option.some.injEq] at ho; subst ho; intro K hK)
              go_simp
              refine (rlitc_any l _ (by omega) (by omega)).mono ?_
              rintro e w9 ⟨rfl, rfl⟩
              (refine hK.out _ _ (fun _ => ⟨HQ.out.cell 0, HQ.out.cell 1, HK.out.cell 0, HK.out.cell 1, HJ.out.cell 0, HJ.out.cell 1⟩) ?_; clear hK K; try simp only [Act.put, List.setIfInBounds_toArray, List.set_cons_zero, List.set_cons_succ])
              (refine wpSeq_mov rfl rfl ?_; intro o ho; simp only [List.getElem?_toArray, List.getElem?_cons_zero, List.getElem?_cons_succ, Option.some.injEq] at ho; subst ho; refine ⟨?_, Or.inl ⟨by rfl, fun W hSW => ?_⟩, ?_⟩; rotate_left; (focus (go_simp; first | done | with_reducible rfl)); try simp only [Act.put, List.setIfInBounds_toArray, List.set_cons_zero, List.set_cons_succ])
              (refine wpSeq_mov rfl rfl ?_; intro o ho; simp only [List.getElem?_toArray, List.getElem?_cons_zero, List.getElem?_cons_succ, Option.some.injEq] at ho; subst ho; refine ⟨?_, Or.inl ⟨by rfl, fun W hSW => ?_⟩, ?_⟩; rotate_left; (focus (go_simp; first | done | with_reducible rfl)); try simp only [Act.put, List.setIfInBounds_toArray, List.set_cons_zero, List.set_cons_succ])
              (refine wpSeq_mov rfl rfl ?_; intro o ho; simp only [List.getElem?_toArray, List.getElem?_cons_zero, List.getElem?_cons_succ, Option.some.injEq] at ho; subst ho; refine ⟨?_, Or.inl ⟨by rfl, fun W hSW => ?_⟩, ?_⟩; rotate_left; (focus (go_simp; first | done | with_reducible rfl)); try simp only [Act.put, List.setIfInBounds_toArray, List.set_cons_zero, List.set_cons_succ])
              (refine wpSeq_mov rfl rfl ?_; intro o ho; simp only [List.getElem?_toArray, List.getElem?_cons_zero, List.getElem?_cons_succ, Option.some.injEq] at ho; subst ho; refine ⟨?_, Or.inl ⟨by rfl, fun W hSW => ?_⟩, ?_⟩; rotate_left; (focus (go_simp; first | done | with_reducible rfl)); try simp only [Act.put, List.setIfInBounds_toArray, List.set_cons_zero, List.set_cons_succ])
              refine wpSeq_done ?_
              go_wp2_with fail
              go_ret
              exact ⟨rfl, HL.out.b⟩
      · have h3' : (100 : Int) < (m.length : Int) := by omega
        clear h3
        go_enter Try.func15, Try.ntmps15
        go_wp2_with fail
        refine (awake14_any _).mono ?_
        rintro e w2 ⟨rfl, hb⟩
        go_wp2_with fail
        go_ret
        exact ⟨rfl, (HL.out.step hb).b⟩
    · have h2' : (100 : Int) < (cs.length : Int) := by omega
      clear h2
      go_enter Try.func15, Try.ntmps15
      go_wp2_with fail
      refine (awake14_any _).mono ?_
      rintro e w2 ⟨rfl, hb⟩
      go_wp2_with fail
      go_ret
      exact ⟨rfl, (HL.out.step hb).b⟩
  · have h1' : (60 : Int) < (g.as.length : Int) := by omega
    clear h1
    go_enter Try.func15, Try.ntmps15
    go_wp2_with fail
    refine (awake14_any _).mono ?_
    rintro e w2 ⟨rfl, hb⟩
    go_wp2_with fail
    go_ret
    exact ⟨rfl, (HL.out.step hb).b⟩
end Go.Proofs.Ytbdhkagcbncefaa
