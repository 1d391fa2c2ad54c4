/- CnfMade's walk. -/
import Derived.Test.YtbdhkagcbncefaaG4
import Derived.Test.YtbdhkagcbncefaaG3
set_option linter.unusedVariables false
set_option linter.unusedSimpArgs false
namespace Go.Proofs.Ytbdhkagcbncefaa
open Go.RowKit Go.Maps

theorem clausesAt_small (g : Gr) (l : Int) : ∀ k, ∀ c ∈ clausesAt g l k, c.length ≤ 3
  | 0 => fun c hc => by
    simp [clausesAt] at hc
    subst hc
    simp
  | k + 1 => fun c hc => by
    rw [clausesAt] at hc
    split at hc
    · split at hc
      · rcases List.mem_append.1 hc with h | h
        · exact clausesAt_small g l k c h
        · simp only [gateC, List.mem_cons, List.not_mem_nil, or_false] at h
          rcases h with rfl | rfl | rfl <;> simp
      · exact clausesAt_small g l k c hc
    · exact clausesAt_small g l k c hc
theorem cnfG_small (g : Gr) (l : Int) : ∀ c ∈ (cnfG g l).2.1, c.length ≤ 3 := by
  unfold cnfG
  split
  · exact clausesAt_small g l _
  · intro c hc
    cases hc
theorem cnfG_len (g : Gr) (l : Int) : (cnfG g l).2.1.length ≤ 1 + 3 * g.as.length := by
  unfold cnfG
  split
  · exact clausesAt_length g l _
  · simp
theorem cnfG_vars (g : Gr) (l : Int) (h : 0 ≤ g.n) : 0 ≤ (cnfG g l).1 ∧ (cnfG g l).1 ≤ g.n + 1 + g.as.length := by
  unfold cnfG
  split
  · simp only [Gr.vars]
    omega
  · simp only
    omega

set_option maxRecDepth 100000 in
set_option maxHeartbeats 4000000 in
theorem cnfMade_any (n : Int) (xs : List Int) (A : Option Addr) (cp : Nat) (a m : Int) (w : World) (hn : 0 ≤ n ∧ n ≤ 255) (hx : U16 xs) (hcp : xs.length ≤ cp) (hcl : cp ≤ 70368744177664) (hp : Vals w w.heap.size A (u16s xs)) (ha : 0 ≤ a ∧ a ≤ 255) (hm : 0 ≤ m ∧ m ≤ 18446744073709551615) :
    Calls Try.prog 16 #[.int .u8 n, .slice A xs.length cp, .int .u8 a, .int .u64 m] w (Ret w (.bool true)) := by
  have hnot := @not_run Try.prog
  have HM := Lib.hid (fun (w1 : World) (h : Below w.heap.size w w1) => made_any (n % 7) xs A cp w1 (by omega) (by omega) hx (by omega) (hp.after h))
  have HI := Lib.hid (madeG_inv (n := n % 7) (by omega) (by omega) xs)
  generalize madeG (n % 7) xs = s at HM HI
  have n0 : 0 ≤ s.1.n := by rw [HI.out.n]; omega
  have n1 : s.1.n ≤ 6 := by rw [HI.out.n]; omega
  have l1 : s.1.as.length ≤ 40 := HI.out.len
  obtain ⟨N, hN⟩ : ∃ N : Nat, s.1.n = (N : Int) := ⟨s.1.n.toNat, by omega⟩
  have HN := Lib.hid hN
  have hN6 : N ≤ 6 := by omega
  have hll := lit_lt HI.out.lit
  have hl1 : s.2 ≤ 9223372036854775807 := by unfold Gr.vars at hll; omega
  clear hN hll
  go_enter Try.func16, Try.ntmps16
  go_wp2_with fail
  have HL := Lib.hid (Low.refl w)
  refine (HM.out w HL.out.b).mono ?_
  rintro e w1 ⟨B, d, rfl, hc1, hp1, hb⟩
  replace HL := Lib.hid (HL.out.step hb)
  replace HL := Lib.hid (HL.out.step (stepA w1 (.cells #[.int .i64 s.1.n, .slice B s.1.as.length d] 24)))
  have HG := Lib.hid (GBox.new hc1 hp1)
  clear hb hp1 hc1 HM
  have HX := Lib.hid (BlkF.new (w1.alloc (.cells #[.int .i64 s.1.n, .slice B s.1.as.length d] 24)) 3 #[.int .i64 s.2, .int .i64 a])
  replace HL := Lib.hid (HL.out.step (stepA _ (.cells #[.int .i64 s.2, .int .i64 a] 3))); replace HG := Lib.hid (HG.out.step (stepA _ (.cells #[.int .i64 s.2, .int .i64 a] 3)))
  rw [World.size_alloc] at HX
  go_wp2_with fail
  obtain ⟨w2, hw2⟩ : ∃ w2, (w1.alloc (.cells #[.int .i64 s.1.n, .slice B s.1.as.length d] 24)).alloc (.cells #[.int .i64 s.2, .int .i64 a] 3) = w2 := ⟨_, rfl⟩
  rw [hw2] at HL HG HX ⊢
  clear hw2
  go_loopw [31] (fun i wr => ∃ k : Nat, k ≤ 2 ∧ i = .int .i64 k ∧ Low w2 wr) (fun i _ => 2 - (intOf i).toNat)
  case atStart => exact ⟨0, by omega, rfl, Low.refl _⟩
  case round =>
    obtain ⟨k, hk, rfl, hlow⟩ := hrel
    have HS := Lib.hid hlow
    clear hlow
    have HGk := Lib.hid (HG.out.step HS.out.b)
    have HXk := Lib.hid (HX.out.step HS.out.b)
    have HLk := Lib.hid (HL.out.step HS.out.b)
    have c0 := HGk.out.c0
    have c1 := HGk.out.c1
    by_cases hlt : k < 2
    · have hlt' : (k : Int) < 2 := by omega
      obtain ⟨x, hx1⟩ : ∃ x, (#[Value.int .i64 s.2, Value.int .i64 a] : Array Value)[k]? = some (.int .i64 x) ∧ 0 ≤ x ∧ x ≤ 9223372036854775807 := by
        match k, hlt with
        | 0, _ => exact ⟨s.2, rfl, by have := lit_lt HI.out.lit; have := (litB_iff _ _).1 HI.out.lit; omega, hl1⟩
        | 1, _ => exact ⟨a, rfl, ha.1, by omega⟩
      obtain ⟨hx1, hx2, hx3⟩ := hx1
      have e1 : wr.cell? ⟨w1.heap.size + 1, k, none⟩ = some (.int .i64 x) := (HXk.out.cell k).trans hx1
      clear hx1
      go_wp2_with fail
      refine (cof_any s.1 x B d _ HI.out.ok hx3 HGk.out.prs).mono ?_
      rintro e w3 ⟨A1, c3, rfl, hc3, hcl, hb⟩
      obtain ⟨r0, r1⟩ := cnfG_vars s.1 x n0
      have r2 := cnfG_len s.1 x
      have HSM := Lib.hid (cnfG_small s.1 x)
      have HR := Lib.hid (rcof_any s.1 x B d)
      generalize cnfG s.1 x = r at hc3 hcl r0 r1 r2 HSM HR ⊢
      replace HLk := Lib.hid (HLk.out.step hb); replace HGk := Lib.hid (HGk.out.step hb); replace HS := Lib.hid (HS.out.step hb)
      have HCL : Hid (Cls _ _ A1 _) := hcl.after (stepA w3 (.cells #[.int .i64 r.1, .slice A1 r.2.1.length c3] 57))
      have HK := Lib.hid (BlkF.new w3 57 #[.int .i64 r.1, .slice A1 r.2.1.length c3])
      replace HLk := Lib.hid (HLk.out.step (stepA w3 (.cells #[.int .i64 r.1, .slice A1 r.2.1.length c3] 57))); replace HGk := Lib.hid (HGk.out.step (stepA w3 (.cells #[.int .i64 r.1, .slice A1 r.2.1.length c3] 57))); replace HS := Lib.hid (HS.out.step (stepA w3 (.cells #[.int .i64 r.1, .slice A1 r.2.1.length c3] 57)))
      clear hcl hb c0 c1 e1
      have c0 := HGk.out.c0
      have c1 := HGk.out.c1
      go_wp2_with fail
      refine (HR.out _ HI.out.ok hx3 HGk.out.prs).mono ?_
      rintro e w4 ⟨A2, c4, rfl, hc4, hcl, hb⟩
      replace HLk := Lib.hid (HLk.out.step hb); replace HGk := Lib.hid (HGk.out.step hb); replace HS := Lib.hid (HS.out.step hb); replace HK := Lib.hid (HK.out.step hb)
      replace HCL := Lib.hid (HCL.out.after hb)
      have HDL : Hid (Cls _ _ A2 _) := hcl.after (stepA w4 (.cells #[.int .i64 r.1, .slice A2 r.2.1.length c4] 57))
      have HJ := Lib.hid (BlkF.new w4 57 #[.int .i64 r.1, .slice A2 r.2.1.length c4])
      replace HLk := Lib.hid (HLk.out.step (stepA w4 (.cells #[.int .i64 r.1, .slice A2 r.2.1.length c4] 57))); replace HGk := Lib.hid (HGk.out.step (stepA w4 (.cells #[.int .i64 r.1, .slice A2 r.2.1.length c4] 57))); replace HS := Lib.hid (HS.out.step (stepA w4 (.cells #[.int .i64 r.1, .slice A2 r.2.1.length c4] 57))); replace HK := Lib.hid (HK.out.step (stepA w4 (.cells #[.int .i64 r.1, .slice A2 r.2.1.length c4] 57)))
      replace HCL := Lib.hid (HCL.out.after (stepA w4 (.cells #[.int .i64 r.1, .slice A2 r.2.1.length c4] 57)))
      clear hcl hb c0 c1 HR
      have j0 := HJ.out.cell 0
      have j1 := HJ.out.cell 1
      obtain ⟨N2, hN2⟩ : ∃ N2 : Nat, r.1 = (N2 : Int) := ⟨r.1.toNat, by omega⟩
      have HBT : Hid (∀ W : World, Calls Try.prog 36 #[.int .i64 (m / 2), .int .i64 r.1] W (RetB W (bitsG (m / 2) N2))) := fun W => by rw [hN2]; exact bits_any (m / 2) N2 W (by omega) (by omega) (by omega)
      have HXv : Hid ((bitsG (m / 2) N2).length = N2) := bitsG_length _ _
      have hN3 : N2 ≤ 47 := by omega
      clear hN2
      generalize bitsG (m / 2) N2 = v at HBT HXv
      have hvl : v.length ≤ 140737488355328 := by rw [HXv.out]; omega
      have HLS : Hid (∀ l ∈ r.2.1, l.length ≤ 140737488355328) := fun l hl => by have := HSM.out l hl; omega
      have hrl : r.2.1.length ≤ 140737488355328 := by omega
      go_wp2_with fail
      refine (HBT.out _).mono ?_
      rintro e w5 ⟨A3, c5, rfl, hc5, hv, hb⟩
      replace HLk := Lib.hid (HLk.out.step hb); replace HGk := Lib.hid (HGk.out.step hb); replace HS := Lib.hid (HS.out.step hb); replace HK := Lib.hid (HK.out.step hb); replace HJ := Lib.hid (HJ.out.step hb)
      replace HCL := Lib.hid (HCL.out.after hb)
      replace HDL := Lib.hid (HDL.out.after hb)
      have HV : Hid (ValsF w5 A3 (bools v)) := ⟨hv⟩
      clear hb hv HBT j0 j1
      replace HLk := Lib.hid (HLk.out.step (stepD1 w5)); replace HGk := Lib.hid (HGk.out.step (stepD1 w5)); replace HS := Lib.hid (HS.out.step (stepD1 w5)); replace HK := Lib.hid (HK.out.step (stepD1 w5)); replace HJ := Lib.hid (HJ.out.step (stepD1 w5)); replace HV := Lib.hid (HV.out.step (stepD1 w5))
      replace HCL := Lib.hid (HCL.out.after (stepD1 w5))
      replace HDL := Lib.hid (HDL.out.after (stepD1 w5))
      go_wp2_with fail
      refine wp_region_noPanic ?_
      refine wp_region_seq (fun W => W.cell? ⟨w3.heap.size, 0, none⟩ = some (.int .i64 r.1) ∧ W.cell? ⟨w3.heap.size, 1, none⟩ = some (.slice A1 r.2.1.length c3) ∧ W.cell? ⟨w4.heap.size, 0, none⟩ = some (.int .i64 r.1) ∧ W.cell? ⟨w4.heap.size, 1, none⟩ = some (.slice A2 r.2.1.length c4)) [0, 1, 2, 3, 4, 5, 6, 7, 8, 9, 10, 11, 13, 14, 12, 15, 16, 17] [0, 1, 3, 4, 5, 6, 7, 8, 9, 10, 11, 13, 14, 16, 17] [] (by kernel_rfl) (by kernel_rfl) rfl (by kernel_rfl) (by kernel_rfl) (fun _ _ _ _ _ h => h) ?_ (fun hSS => ?_)
      · exact ⟨HK.out.cell 0, HK.out.cell 1, HJ.out.cell 0, HJ.out.cell 1⟩
      (refine wpSeq_mov rfl rfl ?_; intro o ho; simp only [List.getElem?_toArray, List.getElem?_cons_zero, List.getElem?_cons_succ, Option.some.injEq] at ho; subst ho; refine ⟨?_, Or.inl ⟨by rfl, fun W hSW => ?_⟩, ?_⟩; rotate_left; (focus (go_simp; first | done | with_reducible rfl)); try simp only [Act.put, List.setIfInBounds_toArray, List.set_cons_zero, List.set_cons_succ])
      (refine wpSeq_mov rfl rfl ?_; intro o ho; simp only [List.getElem?_toArray, List.getElem?_cons_zero, List.getElem?_cons_succ, Option.some.injEq] at ho; subst ho; refine ⟨?_, Or.inl ⟨by rfl, fun W hSW => ?_⟩, ?_⟩; rotate_left; (focus (go_simp; first | done | with_reducible rfl)); try simp only [Act.put, List.setIfInBounds_toArray, List.set_cons_zero, List.set_cons_succ])
      (refine wpSeq_fix rfl rfl ?_; intro o ho; simp only [List.getElem?_toArray, List.getElem?_cons_zero, List.getElem?_cons_succ, Option.some.injEq] at ho; subst ho; intro K hK)
      go_simp
      refine (csame_any r.1 r.2.1 A1 A2 c3 c4 _ hrl HLS.out HCL.out HDL.out).mono ?_
      rintro e w6 ⟨rfl, hb⟩
      replace HLk := Lib.hid (HLk.out.step hb); replace HGk := Lib.hid (HGk.out.step hb); replace HS := Lib.hid (HS.out.step hb); replace HK := Lib.hid (HK.out.step hb); replace HJ := Lib.hid (HJ.out.step hb); replace HV := Lib.hid (HV.out.step hb)
      replace HCL := Lib.hid (HCL.out.after hb)
      replace HDL := Lib.hid (HDL.out.after hb)
      clear hb
      (refine hK.out _ _ (fun _ => ⟨HK.out.cell 0, HK.out.cell 1, HJ.out.cell 0, HJ.out.cell 1⟩) ?_; clear hK K; try simp only [Act.put, List.setIfInBounds_toArray, List.set_cons_zero, List.set_cons_succ])
      (refine wpSeq_mov rfl rfl ?_; intro o ho; simp only [List.getElem?_toArray, List.getElem?_cons_zero, List.getElem?_cons_succ, Option.some.injEq] at ho; subst ho; refine ⟨?_, Or.inl ⟨by rfl, fun W hSW => ?_⟩, ?_⟩; rotate_left; (focus (go_simp; first | done | with_reducible rfl)); try simp only [Act.put, List.setIfInBounds_toArray, List.set_cons_zero, List.set_cons_succ])
      (refine wpSeq_mov rfl rfl ?_; intro o ho; simp only [List.getElem?_toArray, List.getElem?_cons_zero, List.getElem?_cons_succ, Option.some.injEq] at ho; subst ho; refine ⟨?_, Or.inl ⟨by rfl, fun W hSW => ?_⟩, ?_⟩; rotate_left; (focus (go_simp; first | done | with_reducible rfl)); try simp only [Act.put, List.setIfInBounds_toArray, List.set_cons_zero, List.set_cons_succ])
      (refine wpSeq_mov rfl rfl ?_; intro o ho; simp only [List.getElem?_toArray, List.getElem?_cons_zero, List.getElem?_cons_succ, Option.some.injEq] at ho; subst ho; refine ⟨?_, Or.inl ⟨by rfl, fun W hSW => ?_⟩, ?_⟩; rotate_left; (focus (go_simp; first | done | with_reducible rfl)); try simp only [Act.put, List.setIfInBounds_toArray, List.set_cons_zero, List.set_cons_succ])
      (refine wpSeq_mov rfl rfl ?_; intro o ho; simp only [List.getElem?_toArray, List.getElem?_cons_zero, List.getElem?_cons_succ, Option.some.injEq] at ho; subst ho; refine ⟨?_, Or.inl ⟨by rfl, fun W hSW => ?_⟩, ?_⟩; rotate_left; (focus (go_simp; first | done | with_reducible rfl)); try simp only [Act.put, List.setIfInBounds_toArray, List.set_cons_zero, List.set_cons_succ])
      (refine wpSeq_mov rfl rfl ?_; intro o ho; simp only [List.getElem?_toArray, List.getElem?_cons_zero, List.getElem?_cons_succ, Option.some.injEq] at ho; subst ho; refine ⟨?_, Or.inl ⟨by rfl, fun W hSW => ?_⟩, ?_⟩; rotate_left; (focus (go_simp; first | done | with_reducible rfl)); try simp only [Act.put, List.setIfInBounds_toArray, List.set_cons_zero, List.set_cons_succ])
      (refine wpSeq_mov rfl rfl ?_; intro o ho; simp only [List.getElem?_toArray, List.getElem?_cons_zero, List.getElem?_cons_succ, Option.some.injEq] at ho; subst ho; refine ⟨?_, Or.inl ⟨by rfl, fun W hSW => ?_⟩, ?_⟩; rotate_left; (focus (go_simp; first | done | with_reducible rfl)); try simp only [Act.put, List.setIfInBounds_toArray, List.set_cons_zero, List.set_cons_succ])
      (refine wpSeq_mov rfl rfl ?_; intro o ho; simp only [List.getElem?_toArray, List.getElem?_cons_zero, List.getElem?_cons_succ, Option.some.injEq] at ho; subst ho; refine ⟨?_, Or.inl ⟨by rfl, fun W hSW => ?_⟩, ?_⟩; rotate_left; (focus (go_simp; first | done | with_reducible rfl)); try simp only [Act.put, List.setIfInBounds_toArray, List.set_cons_zero, List.set_cons_succ])
      (refine wpSeq_mov rfl rfl ?_; intro o ho; simp only [List.getElem?_toArray, List.getElem?_cons_zero, List.getElem?_cons_succ, Option.some.injEq] at ho; subst ho; refine ⟨?_, Or.inl ⟨by rfl, fun W hSW => ?_⟩, ?_⟩; rotate_left; (focus (go_simp; first | done | with_reducible rfl)); try simp only [Act.put, List.setIfInBounds_toArray, List.set_cons_zero, List.set_cons_succ])
      (refine wpSeq_mov rfl rfl ?_; intro o ho; simp only [List.getElem?_toArray, List.getElem?_cons_zero, List.getElem?_cons_succ, Option.some.injEq] at ho; subst ho; refine ⟨?_, Or.inl ⟨by rfl, fun W hSW => ?_⟩, ?_⟩; rotate_left; (focus (go_simp; first | done | with_reducible rfl)); try simp only [Act.put, List.setIfInBounds_toArray, List.set_cons_zero, List.set_cons_succ])
      (refine wpSeq_mov rfl rfl ?_; intro o ho; simp only [List.getElem?_toArray, List.getElem?_cons_zero, List.getElem?_cons_succ, Option.some.injEq] at ho; subst ho; refine ⟨?_, Or.inl ⟨by rfl, fun W hSW => ?_⟩, ?_⟩; rotate_left; (focus (go_simp; first | done | with_reducible rfl)); try simp only [Act.put, List.setIfInBounds_toArray, List.set_cons_zero, List.set_cons_succ])
      (refine wpSeq_mov rfl rfl ?_; intro o ho; simp only [List.getElem?_toArray, List.getElem?_cons_zero, List.getElem?_cons_succ, Option.some.injEq] at ho; subst ho; refine ⟨?_, Or.inl ⟨by rfl, fun W hSW => ?_⟩, ?_⟩; rotate_left; (focus (go_simp; first | done | with_reducible rfl)); try simp only [Act.put, List.setIfInBounds_toArray, List.set_cons_zero, List.set_cons_succ])
      (refine wpSeq_fix rfl rfl ?_; intro o ho; simp only [List.getElem?_toArray, List.getElem?_cons_zero, List.getElem?_cons_succ, Option.some.injEq] at ho; subst ho; intro K hK)
      go_simp
      refine (cso_any r.1 r.2.1 v A1 A3 c3 c5 _ hrl HLS.out hvl HCL.out HV.out.p).mono ?_
      rintro e w7 ⟨rfl, hb⟩
      replace HLk := Lib.hid (HLk.out.step hb); replace HGk := Lib.hid (HGk.out.step hb); replace HS := Lib.hid (HS.out.step hb); replace HK := Lib.hid (HK.out.step hb); replace HJ := Lib.hid (HJ.out.step hb); replace HV := Lib.hid (HV.out.step hb)
      replace HCL := Lib.hid (HCL.out.after hb)
      replace HDL := Lib.hid (HDL.out.after hb)
      clear hb
      (refine hK.out _ _ (fun _ => ⟨HK.out.cell 0, HK.out.cell 1, HJ.out.cell 0, HJ.out.cell 1⟩) ?_; clear hK K; try simp only [Act.put, List.setIfInBounds_toArray, List.set_cons_zero, List.set_cons_succ])
      (refine wpSeq_fix rfl rfl ?_; intro o ho; simp only [List.getElem?_toArray, List.getElem?_cons_zero, List.getElem?_cons_succ, Option.some.injEq] at ho; subst ho; intro K hK)
      go_simp
      refine (rcso_any r.1 r.2.1 v A2 A3 c4 c5 _ hrl HLS.out hvl HDL.out HV.out.p).mono ?_
      rintro e w8 ⟨rfl, hb⟩
      replace HLk := Lib.hid (HLk.out.step hb); replace HGk := Lib.hid (HGk.out.step hb); replace HS := Lib.hid (HS.out.step hb); replace HK := Lib.hid (HK.out.step hb); replace HJ := Lib.hid (HJ.out.step hb); replace HV := Lib.hid (HV.out.step hb)
      clear hb
      (refine hK.out _ _ (fun _ => ⟨HK.out.cell 0, HK.out.cell 1, HJ.out.cell 0, HJ.out.cell 1⟩) ?_; clear hK K; try simp only [Act.put, List.setIfInBounds_toArray, List.set_cons_zero, List.set_cons_succ])
      (refine wpSeq_mov rfl rfl ?_; intro o ho; simp only [List.getElem?_toArray, List.getElem?_cons_zero, List.getElem?_cons_succ, Option.some.injEq] at ho; subst ho; refine ⟨?_, Or.inl ⟨by rfl, fun W hSW => ?_⟩, ?_⟩; rotate_left; (focus (go_simp; first | done | with_reducible rfl)); try simp only [Act.put, List.setIfInBounds_toArray, List.set_cons_zero, List.set_cons_succ])
      (refine wpSeq_mov rfl rfl ?_; intro o ho; simp only [List.getElem?_toArray, List.getElem?_cons_zero, List.getElem?_cons_succ, Option.some.injEq] at ho; subst ho; refine ⟨?_, Or.inl ⟨by rfl, fun W hSW => ?_⟩, ?_⟩; rotate_left; (focus (go_simp; first | done | with_reducible rfl)); try simp only [Act.put, List.setIfInBounds_toArray, List.set_cons_zero, List.set_cons_succ])
      refine wpSeq_done ?_
      go_wp2_with fail
      go_roundw
      case rel => exact ⟨k + 1, by omega, by go_num, HS.out⟩
      case measure => simp [intOf]; omega
    · have hlt' : ¬ ((k : Int) < 2) := by omega
      go_wp2_with fail
      refine (awake14_any _).mono ?_
      rintro e w3 ⟨rfl, hb⟩
      go_wp2_with fail
      go_ret
      exact ⟨rfl, (HLk.out.step hb).b⟩
end Go.Proofs.Ytbdhkagcbncefaa
