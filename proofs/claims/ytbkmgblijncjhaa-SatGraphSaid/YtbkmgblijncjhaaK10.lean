/- A solver: what Solve tells of a graph's clauses. Layer 15: SatGraph. -/
import Derived.Test.YtbkmgblijncjhaaK6
import Derived.Test.YtbkmgblijncjhaaK4
import Derived.Test.YtbkmgblijncjhaaK3
import Derived.Test.YtbkmgblijncjhaaK9
import Derived.Test.YtbkmgblijncjhaaK8
set_option linter.unusedVariables false
set_option linter.unusedSimpArgs false
namespace Go.Proofs.Ytbkmgblijncjhaa
open Go.RowKit Go.Maps

theorem clausesAt_short (g : Gr) (l : Int) {c : List Int} (h : c ∈ clausesAt g l g.as.length) : c.length ≤ 3 := clausesAt_small g l _ c h
/-- Of a literal of a small graph: what Solve tells. -/
theorem solve_graph (g : Gr) (r : Int) (hgr : rightB g = true) (hgl : litB g r = true) (h40 : g.as.length ≤ 40) (h6 : g.n ≤ 6) (n : Nat) (hn : (n : Int) = g.vars) (cs : List (List Int)) (hcs : cs = clausesAt g r g.as.length) (A : Option Addr) (c : Nat) (l : List Int) (B : Option Addr) (d : Nat) (w : World) (ho : l.any (oddX n) = false) (hll : l.length ≤ 140737488355328) (hp : Cls w w.heap.size A cs) (hq : Vals w w.heap.size B (i64s l)) (hcc : cs.length ≤ c) (hd : l.length ≤ d) :
    Calls Try.prog 11 #[.agg #[.int .i64 (n : Int), .slice A cs.length c], .slice B l.length d, .int .i64 0] w (SolPost w n cs l) := by
  have hr : rightC n cs = true := by rw [hn, hcs]; exact rightC_of hgr r
  have hcl : cs.length ≤ 121 := by have := clausesAt_length g r g.as.length; rw [hcs]; omega
  have hn47 : n ≤ 47 := by unfold Gr.vars at hn; omega
  refine solve_gen n cs A c l B d w hr ho (fun x hx => by have := clausesAt_short g r (c := x) (by rw [← hcs]; exact hx); omega) hll hp hq hcc hd fun W b s G o hR => ?_
  have h1 := hR.cn
  have h2 := hR.un
  refine run_gen hR.m hR.r hR.i (fun p x r h => ?_) hR.dead (fun hd c hc => ?_) (fun hd c hc => by rw [hR.done]; exact (hR.ne hd c hc).w2) hR.lims (by omega) (hq.after hR.low) (fun hne k p e => ?_) hll hd (fun x hx => ?_) 2950000000000 (fun s' hi hm _ => many_bound hgr hgl h40 h6 hn (fun xs hx => ?_) (fun c hc => ?_) hi hm) (by omega) ?_
  · rw [hR.lims] at h
    cases h
  · have hne := (hR.ne hd c hc).ne
    cases c with
    | nil => exact absurd rfl hne
    | cons y c =>
      refine ⟨y, List.mem_cons_self .., ?_⟩
      rw [hR.done]
      simp
  · obtain ⟨k', p', e', hk, _⟩ := hq 0 (.int .i64 (l.head hne)) (by
      cases l with
      | nil => exact absurd rfl hne
      | cons y l => rfl)
    rw [e] at e'
    cases e'
    cases e2 : o k with
    | none => rfl
    | some lb =>
      have := hR.m.ol k lb e2
      omega
  · have := oddX_no.1 (by simpa using List.any_eq_false.1 ho x hx)
    omega
  · rw [← hcs] at hx
    rcases hR.keep xs hx with h | h
    · exact .inl h
    · exact .inr ⟨_, h, fun y hy => normC_mem.1 hy⟩
  · rw [← hcs]
    exact hR.orig c hc
  · omega
end Go.Proofs.Ytbkmgblijncjhaa

set_option linter.unusedVariables false
set_option linter.unusedSimpArgs false
namespace Go.Proofs.Ytbkmgblijncjhaa
open Go.RowKit Go.Maps

theorem litC_plain {g : Gr} {l : Int} (hl : litB g l = true) {V : Nat} (hV : (V : Int) = g.vars) : ([litC l].any (oddX V)) = false := by
  obtain ⟨_, _, l0, l1⟩ := (litB_iff g l).1 hl
  obtain ⟨a1, a2, a3⟩ := litC_in (l := l) (v := g.vars) l0 (by unfold Gr.vars; omega)
  rw [List.any_cons, List.any_nil, Bool.or_false]
  exact oddX_no.2 (by rw [hV]; exact ⟨a1, a2, a3⟩)
theorem shl_two {N : Nat} (h : N ≤ 6) : (2 : Nat) ^ N ≤ 64 := Nat.pow_le_pow_right (by decide) h

set_option maxRecDepth 100000 in
set_option maxHeartbeats 8000000 in
theorem satGraph_any (n : Int) (xs : List Int) (A : Option Addr) (cp : Nat) (w : World) (hn : 0 ≤ n ∧ n ≤ 255) (hx : U16 xs) (hcp : xs.length ≤ cp) (hcl : cp ≤ 70368744177664) (hp : Vals w w.heap.size A (u16s xs)) :
    Calls Try.prog 5 #[.int .u8 n, .slice A xs.length cp] w (Ret w (.bool true)) := by
  have hnot := @not_run Try.prog
  have HM := Lib.hid (fun (w1 : World) (h : Below w.heap.size w w1) => made_any (n % 7) xs A cp w1 (by omega) (by omega) hx (by omega) (hp.after h))
  have HI := Lib.hid (madeG_inv (n := n % 7) (by omega) (by omega) xs)
  generalize madeG (n % 7) xs = s at HM HI
  have n0 : 0 ≤ s.1.n := by rw [HI.out.n]; omega
  have n1 : s.1.n ≤ 6 := by rw [HI.out.n]; omega
  have l1 : s.1.as.length ≤ 40 := HI.out.len
  obtain ⟨N, hN⟩ : ∃ N : Nat, s.1.n = (N : Int) := ⟨s.1.n.toNat, by omega⟩
  have hNt : s.1.n.toNat = N := by omega
  have hN6 : N ≤ 6 := by omega
  have hll := lit_lt HI.out.lit
  have hl0 := litB_ge HI.out.lit
  have hl1 : s.2 ≤ 9223372036854775807 := by unfold Gr.vars at hll; omega
  obtain ⟨V, hV⟩ : ∃ V : Nat, (V : Int) = s.1.vars := ⟨s.1.vars.toNat, by unfold Gr.vars; omega⟩
  have hVN : N + 1 ≤ V := by unfold Gr.vars at hV; omega
  have hV47 : V ≤ 47 := by unfold Gr.vars at hV; omega
  obtain ⟨cs, hcs⟩ : ∃ cs, cs = clausesAt s.1 s.2 s.1.as.length := ⟨_, rfl⟩
  have e1 : cnfG s.1 s.2 = ((V : Int), cs, 0) := by rw [cnfG_yes HI.out.right HI.out.lit, hcs, hV]
  have HC1 := Lib.hid (fun (B : Option Addr) (d : Nat) (w1 : World) (k2 : Prs w1 w1.heap.size B s.1.as) => rcof_any s.1 s.2 B d w1 HI.out.ok hl1 k2)
  rw [e1] at HC1
  have HSO := Lib.hid (fun (A1 : Option Addr) (c1 : Nat) (B : Option Addr) (d : Nat) (W : World) (hp : Cls W W.heap.size A1 cs) (hcc : cs.length ≤ c1) (hq : Vals W W.heap.size B (i64s [litC s.2])) (hd : 1 ≤ d) => solve_graph s.1 s.2 HI.out.right HI.out.lit l1 n1 V hV cs hcs A1 c1 [litC s.2] B d W (litC_plain HI.out.lit hV) (by simp) hp hq hcc hd)
  have HEV := Lib.hid (fun (v : List Bool) (B : Option Addr) (d : Nat) (C : Option Addr) (c : Nat) (W : World) (hc : s.1.as.length ≤ d) (hp : Prs W W.heap.size B s.1.as) (hv : v.length = N) (hd : v.length ≤ c) (hq : Vals W W.heap.size C (bools v)) => reval_any s.1 s.2 v B C d c W HI.out.ok hc hp hd (by omega) hq hl1)
  have HNO : Hid (∀ k, (∀ m, SatF m cs → (∀ a ∈ [litC s.2], litOn m a = true) → False) → anyG s.1 s.2 N k = false) := Lib.hid fun k h => anyG_none fun v hv => eval_none HI.out.right HI.out.lit hV (by rw [← hcs]; exact h) (by omega)
  have HYES : Hid (∀ L : List Bool, L.length = V → SatF (mL L) cs → (∀ a ∈ [litC s.2], litOn (mL L) a = true) → evalG s.1 s.2 (insOf L N) = true ∧ anyG s.1 s.2 N (2 ^ N) = true) := Lib.hid fun L h1 h2 h3 => by
    have h4 : evalG s.1 s.2 (insOf L N) = true := by
      rw [← hNt]
      exact eval_model HI.out.right HI.out.lit (by omega) (by rw [← hcs]; exact h2) (h3 _ (by simp))
    exact ⟨h4, anyG_some (insOf_length (by omega)) h4⟩
  have HBT : Hid (∀ (i : Nat), i ≤ 64 → ∀ W : World, Calls Try.prog 18 #[.int .i64 i, .int .i64 s.1.n] W (RetB W (bitsG i N))) := Lib.hid fun i hi W => by rw [hN]; exact bits_any i N W (by omega) (by omega) (by omega)
  have HLT := Lib.hid (fun W => rlitc_any s.2 W hl0 hl1)
  have HN := Lib.hid hN
  have h2N := shl_two hN6
  obtain ⟨P, hP⟩ : ∃ P : Nat, 2 ^ N = P := ⟨_, rfl⟩
  have hsh : wrap64 (2 ^ s.1.n.toNat) = (P : Int) := by
    rw [hNt, show ((2 : Int) ^ N) = ((2 ^ N : Nat) : Int) by simp, hP]
    exact IntWalk.wrap64_in _ (by omega)
  rw [hP] at h2N HYES
  clear hP
  clear e1 hV hcs hx hp hNt hll hN
  go_enter Try.func5, Try.ntmps5
  go_wp2_with fail
  refine (awake15_any _).mono ?_
  rintro e w0 ⟨rfl, hb⟩
  have HL := Lib.hid ((Low.refl w).step hb)
  clear hb
  have htm : n.tmod 7 = n % 7 := Int.tmod_eq_emod_of_nonneg hn.1
  go_wp2_with fail
  refine (HM.out w0 HL.out.b).mono ?_
  rintro e w1 ⟨B, d, rfl, hc1, hp1, hb⟩
  replace HL := Lib.hid (HL.out.step hb)
  replace HL := Lib.hid (HL.out.step (stepA w1 (.cells #[.int .i64 s.1.n, .slice B s.1.as.length d] 41)))
  have HG := Lib.hid (GBox.new hc1 hp1)
  clear hb hp1 hc1 HM htm
  have c0 := HG.out.c0
  have c1 := HG.out.c1
  go_wp2_with fail
  refine (HC1.out B d _ HG.out.prs).mono ?_
  rintro e w3 ⟨A1, c3, rfl, hc3, hcl, hb⟩
  simp only at hc3 hcl ⊢
  replace HL := Lib.hid (HL.out.step hb); replace HG := Lib.hid (HG.out.step hb)
  have HCL : Hid (Cls _ _ A1 _) := hcl.after (stepA w3 (.cells #[.int .i64 V, .slice A1 cs.length c3] 24))
  have HK := Lib.hid (BlkF.new w3 24 #[.int .i64 V, .slice A1 cs.length c3])
  replace HL := Lib.hid (HL.out.step (stepA w3 (.cells #[.int .i64 V, .slice A1 cs.length c3] 24))); replace HG := Lib.hid (HG.out.step (stepA w3 (.cells #[.int .i64 V, .slice A1 cs.length c3] 24)))
  clear hcl hb c0 c1 HC1
  go_wp2_with fail
  obtain ⟨w4, hw4⟩ : ∃ w4, w3.alloc (.cells #[.int .i64 V, .slice A1 cs.length c3] 24) = w4 := ⟨_, rfl⟩
  rw [hw4] at HL HG HK HCL ⊢
  clear hw4
  go_loopw [10, 11] (fun b i wr => ∃ k : Nat, k ≤ P ∧ b = .bool (anyG s.1 s.2 N k) ∧ i = .int .i64 k ∧ Low w4 wr) (fun _ i _ => P - (intOf i).toNat)
  case atStart => exact ⟨0, Nat.zero_le _, rfl, rfl, Low.refl _⟩
  case round =>
    obtain ⟨k, hk, rfl, rfl, hlow⟩ := hrel
    have HR := Lib.hid hlow
    clear hlow
    have c0 := (HG.out.step HR.out.b).c0
    have c1 := (HG.out.step HR.out.b).c1
    by_cases hlt : k < P
    · have hlt' : (k : Int) < (P : Int) := by omega
      go_wp2_with fail
      have HR1 := Lib.hid (HR.out.step (stepD1 wr))
      have HAS := Lib.hid (anyG_succ s.1 s.2 N k)
      clear c0 c1
      generalize anyG s.1 s.2 N k = z at HAS ⊢
      cases z
      ·
        refine wp_region_noPanic ?_
        refine wp_region_seq (fun W => W.cell? ⟨w1.heap.size, 0, none⟩ = some (.int .i64 s.1.n) ∧ W.cell? ⟨w1.heap.size, 1, none⟩ = some (.slice B s.1.as.length d)) [0, 1, 2, 3, 4, 5, 6, 7, 8, 9, 10] [0, 1, 2, 3, 4, 5, 6, 9, 10] [] (by kernel_rfl) (by kernel_rfl) rfl (by kernel_rfl) (by kernel_rfl) (fun _ _ _ _ _ h => h) ?_ (fun hSS => ?_)
        · exact ⟨(HG.out.step HR1.out.b).c0, (HG.out.step HR1.out.b).c1⟩
        clear hSS HR
        (refine wpSeq_mov rfl rfl ?_; intro o ho; simp only [List.getElem?_toArray, List.getElem?_cons_zero, List.getElem?_cons_succ, Option.some.injEq] at ho; subst ho; refine ⟨?_, Or.inl ⟨by rfl, fun W hSW => ?_⟩, ?_⟩; rotate_left; (focus (go_simp; first | done | with_reducible rfl)); try simp only [Act.put, List.setIfInBounds_toArray, List.set_cons_zero, List.set_cons_succ])
        (refine wpSeq_mov rfl rfl ?_; intro o ho; simp only [List.getElem?_toArray, List.getElem?_cons_zero, List.getElem?_cons_succ, Option.some.injEq] at ho; subst ho; refine ⟨?_, Or.inl ⟨by rfl, fun W hSW => ?_⟩, ?_⟩; rotate_left; (focus (go_simp; first | done | with_reducible rfl)); try simp only [Act.put, List.setIfInBounds_toArray, List.set_cons_zero, List.set_cons_succ])
        (refine wpSeq_mov rfl rfl ?_; intro o ho; simp only [List.getElem?_toArray, List.getElem?_cons_zero, List.getElem?_cons_succ, Option.some.injEq] at ho; subst ho; refine ⟨?_, Or.inl ⟨by rfl, fun W hSW => ?_⟩, ?_⟩; rotate_left; (focus (go_simp; first | done | with_reducible rfl)); try simp only [Act.put, List.setIfInBounds_toArray, List.set_cons_zero, List.set_cons_succ])
        (refine wpSeq_mov rfl rfl ?_; intro o ho; simp only [List.getElem?_toArray, List.getElem?_cons_zero, List.getElem?_cons_succ, Option.some.injEq] at ho; subst ho; refine ⟨?_, Or.inl ⟨by rfl, fun W hSW => ?_⟩, ?_⟩; rotate_left; (focus (go_simp; first | done | with_reducible rfl)); try simp only [Act.put, List.setIfInBounds_toArray, List.set_cons_zero, List.set_cons_succ])
        (refine wpSeq_mov rfl rfl ?_; intro o ho; simp only [List.getElem?_toArray, List.getElem?_cons_zero, List.getElem?_cons_succ, Option.some.injEq] at ho; subst ho; refine ⟨?_, Or.inl ⟨by rfl, fun W hSW => ?_⟩, ?_⟩; rotate_left; (focus (go_simp; first | done | with_reducible rfl)); try simp only [Act.put, List.setIfInBounds_toArray, List.set_cons_zero, List.set_cons_succ])
        (refine wpSeq_mov rfl rfl ?_; intro o ho; simp only [List.getElem?_toArray, List.getElem?_cons_zero, List.getElem?_cons_succ, Option.some.injEq] at ho; subst ho; refine ⟨?_, Or.inl ⟨by rfl, fun W hSW => ?_⟩, ?_⟩; rotate_left; (focus (go_simp; first | done | with_reducible rfl)); try simp only [Act.put, List.setIfInBounds_toArray, List.set_cons_zero, List.set_cons_succ])
        (refine wpSeq_mov rfl rfl ?_; intro o ho; simp only [List.getElem?_toArray, List.getElem?_cons_zero, List.getElem?_cons_succ, Option.some.injEq] at ho; subst ho; refine ⟨?_, Or.inl ⟨by rfl, fun W hSW => ?_⟩, ?_⟩; rotate_left; (focus (go_simp; first | done | with_reducible rfl)); try simp only [Act.put, List.setIfInBounds_toArray, List.set_cons_zero, List.set_cons_succ])
        (refine wpSeq_fix rfl rfl ?_; intro o ho; simp only [List.getElem?_toArray, List.getElem?_cons_zero, List.getElem?_cons_succ, Option.some.injEq] at ho; subst ho; intro K hK)
        go_simp
        refine (HBT.out k (by omega) _).mono ?_
        rintro e w5 ⟨A5, c5, rfl, hc5, hv5, hb⟩
        replace HR1 := Lib.hid (HR1.out.step hb)
        clear hb
        (refine hK.out _ _ (fun _ => ⟨(HG.out.step HR1.out.b).c0, (HG.out.step HR1.out.b).c1⟩) ?_; clear hK K; try simp only [Act.put, List.setIfInBounds_toArray, List.set_cons_zero, List.set_cons_succ])
        (refine wpSeq_fix rfl rfl ?_; intro o ho; simp only [List.getElem?_toArray, List.getElem?_cons_zero, List.getElem?_cons_succ, Option.some.injEq] at ho; subst ho; intro K hK)
        go_simp
        refine (HEV.out _ B d A5 c5 w5 HG.out.cap (HG.out.step HR1.out.b).prs (bitsG_length _ _) hc5 hv5).mono ?_
        rintro e w6 ⟨rfl, hb⟩
        replace HR1 := Lib.hid (HR1.out.step hb)
        clear hb hv5 hc5
        (refine hK.out _ _ (fun _ => ⟨(HG.out.step HR1.out.b).c0, (HG.out.step HR1.out.b).c1⟩) ?_; clear hK K; try simp only [Act.put, List.setIfInBounds_toArray, List.set_cons_zero, List.set_cons_succ])
        (refine wpSeq_mov rfl rfl ?_; intro o ho; simp only [List.getElem?_toArray, List.getElem?_cons_zero, List.getElem?_cons_succ, Option.some.injEq] at ho; subst ho; refine ⟨?_, Or.inl ⟨by rfl, fun W hSW => ?_⟩, ?_⟩; rotate_left; (focus (go_simp; first | done | with_reducible rfl)); try simp only [Act.put, List.setIfInBounds_toArray, List.set_cons_zero, List.set_cons_succ])
        (refine wpSeq_mov rfl rfl ?_; intro o ho; simp only [List.getElem?_toArray, List.getElem?_cons_zero, List.getElem?_cons_succ, Option.some.injEq] at ho; subst ho; refine ⟨?_, Or.inl ⟨by rfl, fun W hSW => ?_⟩, ?_⟩; rotate_left; (focus (go_simp; first | done | with_reducible rfl)); try simp only [Act.put, List.setIfInBounds_toArray, List.set_cons_zero, List.set_cons_succ])
        refine wpSeq_done ?_
        go_wp2_with fail
        go_roundw
        case rel => exact ⟨k + 1, by omega, by rw [HAS.out]; rfl, by go_num, HR1.out⟩
        case measure => simp [intOf]; omega
      ·
        refine wp_region_noPanic ?_
        refine wp_region_seq (fun W => W.cell? ⟨w1.heap.size, 0, none⟩ = some (.int .i64 s.1.n) ∧ W.cell? ⟨w1.heap.size, 1, none⟩ = some (.slice B s.1.as.length d)) [0, 1, 2, 3, 4, 5, 6, 7, 8, 9, 10] [0, 1, 2, 3, 4, 5, 6, 9, 10] [] (by kernel_rfl) (by kernel_rfl) rfl (by kernel_rfl) (by kernel_rfl) (fun _ _ _ _ _ h => h) ?_ (fun hSS => ?_)
        · exact ⟨(HG.out.step HR1.out.b).c0, (HG.out.step HR1.out.b).c1⟩
        clear hSS HR
        (refine wpSeq_mov rfl rfl ?_; intro o ho; simp only [List.getElem?_toArray, List.getElem?_cons_zero, List.getElem?_cons_succ, Option.some.injEq] at ho; subst ho; refine ⟨?_, Or.inl ⟨by rfl, fun W hSW => ?_⟩, ?_⟩; rotate_left; (focus (go_simp; first | done | with_reducible rfl)); try simp only [Act.put, List.setIfInBounds_toArray, List.set_cons_zero, List.set_cons_succ])
        (refine wpSeq_mov rfl rfl ?_; intro o ho; simp only [List.getElem?_toArray, List.getElem?_cons_zero, List.getElem?_cons_succ, Option.some.injEq] at ho; subst ho; refine ⟨?_, Or.inl ⟨by rfl, fun W hSW => ?_⟩, ?_⟩; rotate_left; (focus (go_simp; first | done | with_reducible rfl)); try simp only [Act.put, List.setIfInBounds_toArray, List.set_cons_zero, List.set_cons_succ])
        (refine wpSeq_mov rfl rfl ?_; intro o ho; simp only [List.getElem?_toArray, List.getElem?_cons_zero, List.getElem?_cons_succ, Option.some.injEq] at ho; subst ho; refine ⟨undef, Or.inr ⟨by rfl, rfl⟩, ?_⟩; try simp only [Act.put, List.setIfInBounds_toArray, List.set_cons_zero, List.set_cons_succ])
        (refine wpSeq_mov rfl rfl ?_; intro o ho; simp only [List.getElem?_toArray, List.getElem?_cons_zero, List.getElem?_cons_succ, Option.some.injEq] at ho; subst ho; refine ⟨undef, Or.inr ⟨by rfl, rfl⟩, ?_⟩; try simp only [Act.put, List.setIfInBounds_toArray, List.set_cons_zero, List.set_cons_succ])
        (refine wpSeq_mov rfl rfl ?_; intro o ho; simp only [List.getElem?_toArray, List.getElem?_cons_zero, List.getElem?_cons_succ, Option.some.injEq] at ho; subst ho; refine ⟨undef, Or.inr ⟨by rfl, rfl⟩, ?_⟩; try simp only [Act.put, List.setIfInBounds_toArray, List.set_cons_zero, List.set_cons_succ])
        (refine wpSeq_mov rfl rfl ?_; intro o ho; simp only [List.getElem?_toArray, List.getElem?_cons_zero, List.getElem?_cons_succ, Option.some.injEq] at ho; subst ho; refine ⟨undef, Or.inr ⟨by rfl, rfl⟩, ?_⟩; try simp only [Act.put, List.setIfInBounds_toArray, List.set_cons_zero, List.set_cons_succ])
        (refine wpSeq_mov rfl rfl ?_; intro o ho; simp only [List.getElem?_toArray, List.getElem?_cons_zero, List.getElem?_cons_succ, Option.some.injEq] at ho; subst ho; refine ⟨undef, Or.inr ⟨by rfl, rfl⟩, ?_⟩; try simp only [Act.put, List.setIfInBounds_toArray, List.set_cons_zero, List.set_cons_succ])
        (refine wpSeq_fix rfl rfl ?_; intro o ho; simp only [List.getElem?_toArray, List.getElem?_cons_zero, List.getElem?_cons_succ, Option.some.injEq] at ho; subst ho; intro K hK)
        go_simp
        (refine hK.out _ _ (fun _ => ⟨(HG.out.step HR1.out.b).c0, (HG.out.step HR1.out.b).c1⟩) ?_; clear hK K; try simp only [Act.put, List.setIfInBounds_toArray, List.set_cons_zero, List.set_cons_succ])
        (refine wpSeq_fix rfl rfl ?_; intro o ho; simp only [List.getElem?_toArray, List.getElem?_cons_zero, List.getElem?_cons_succ, Option.some.injEq] at ho; subst ho; intro K hK)
        go_simp
        (refine hK.out _ _ (fun _ => ⟨(HG.out.step HR1.out.b).c0, (HG.out.step HR1.out.b).c1⟩) ?_; clear hK K; try simp only [Act.put, List.setIfInBounds_toArray, List.set_cons_zero, List.set_cons_succ])
        (refine wpSeq_mov rfl rfl ?_; intro o ho; simp only [List.getElem?_toArray, List.getElem?_cons_zero, List.getElem?_cons_succ, Option.some.injEq] at ho; subst ho; refine ⟨?_, Or.inl ⟨by rfl, fun W hSW => ?_⟩, ?_⟩; rotate_left; (focus (go_simp; first | done | with_reducible rfl)); try simp only [Act.put, List.setIfInBounds_toArray, List.set_cons_zero, List.set_cons_succ])
        (refine wpSeq_mov rfl rfl ?_; intro o ho; simp only [List.getElem?_toArray, List.getElem?_cons_zero, List.getElem?_cons_succ, Option.some.injEq] at ho; subst ho; refine ⟨?_, Or.inl ⟨by rfl, fun W hSW => ?_⟩, ?_⟩; rotate_left; (focus (go_simp; first | done | with_reducible rfl)); try simp only [Act.put, List.setIfInBounds_toArray, List.set_cons_zero, List.set_cons_succ])
        refine wpSeq_done ?_
        go_wp2_with fail
        go_roundw
        case rel => exact ⟨k + 1, by omega, by rw [HAS.out]; rfl, by go_num, HR1.out⟩
        case measure => simp [intOf]; omega
    · have hlt' : ¬ (k : Int) < (P : Int) := by omega
      obtain rfl : k = P := by omega
      have HK5 := Lib.hid ((HK.out.step HR.out.b).step (stepD1 wr))
      have HG5 := Lib.hid ((HG.out.step HR.out.b).step (stepD1 wr))
      have HCL5 := Lib.hid ((HCL.out.after HR.out.b).after (stepD1 wr))
      have HL5 := Lib.hid ((HL.out.step HR.out.b).step (stepD1 wr))
      clear HK HG HCL HL HR
      go_wp2_with fail
      clear c0 c1 hlt' hsh
      refine wp_region_noPanic ?_
      refine wp_region_seq (fun W => W.cell? ⟨w3.heap.size, 0, none⟩ = some (.int .i64 V) ∧ W.cell? ⟨w3.heap.size, 1, none⟩ = some (.slice A1 cs.length c3)) [0, 1, 2, 3, 4, 5, 6, 7, 8, 9, 10, 11] [0, 1, 5, 6, 7, 8, 9, 10, 11] [] (by kernel_rfl) (by kernel_rfl) rfl (by kernel_rfl) (by kernel_rfl) (fun _ _ _ _ _ h => h) ?_ (fun hSS => ?_)
      · exact ⟨HK5.out.cell 0, HK5.out.cell 1⟩
      clear hSS
      generalize wr.drew = wq at HK5 HG5 HCL5 HL5 ⊢
      (refine wpSeq_mov rfl rfl ?_; intro o ho; simp only [List.getElem?_toArray, List.getElem?_cons_zero, List.getElem?_cons_succ, Option.some.injEq] at ho; subst ho; refine ⟨?_, Or.inl ⟨by rfl, fun W hSW => ?_⟩, ?_⟩; rotate_left; (focus (go_simp; first | done | with_reducible rfl)); try simp only [Act.put, List.setIfInBounds_toArray, List.set_cons_zero, List.set_cons_succ])
      (refine wpSeq_mov rfl rfl ?_; intro o ho; simp only [List.getElem?_toArray, List.getElem?_cons_zero, List.getElem?_cons_succ, Option.some.injEq] at ho; subst ho; refine ⟨?_, Or.inl ⟨by rfl, fun W hSW => ?_⟩, ?_⟩; rotate_left; (focus (go_simp; first | done | with_reducible rfl)); try simp only [Act.put, List.setIfInBounds_toArray, List.set_cons_zero, List.set_cons_succ])
      (refine wpSeq_fix rfl rfl ?_; intro o ho; simp only [List.getElem?_toArray, List.getElem?_cons_zero, List.getElem?_cons_succ, Option.some.injEq] at ho; subst ho; intro K hK)
      go_simp
      refine (HLT.out _).mono ?_
      rintro e w5 ⟨rfl, rfl⟩
      (refine hK.out _ _ (fun _ => ⟨HK5.out.cell 0, HK5.out.cell 1⟩) ?_; clear hK K; try simp only [Act.put, List.setIfInBounds_toArray, List.set_cons_zero, List.set_cons_succ])
      (refine wpSeq_fix rfl rfl ?_; intro o ho; simp only [List.getElem?_toArray, List.getElem?_cons_zero, List.getElem?_cons_succ, Option.some.injEq] at ho; subst ho; intro K hK)
      go_simp
      have HVI : Hid (Vals _ _ (some ⟨w5.heap.size, 0, none⟩) (i64s [litC s.2])) := vals_of_blk (Blk.new w5 3 (i64s [litC s.2]).toArray)
      replace HK5 := Lib.hid (HK5.out.step (stepA w5 (.cells #[.int .i64 (litC s.2)] 3))); replace HG5 := Lib.hid (HG5.out.step (stepA w5 (.cells #[.int .i64 (litC s.2)] 3))); replace HL5 := Lib.hid (HL5.out.step (stepA w5 (.cells #[.int .i64 (litC s.2)] 3)))
      replace HCL5 := Lib.hid (HCL5.out.after (stepA w5 (.cells #[.int .i64 (litC s.2)] 3)))
      (refine hK.out _ _ (fun _ => ⟨HK5.out.cell 0, HK5.out.cell 1⟩) ?_; clear hK K; try simp only [Act.put, List.setIfInBounds_toArray, List.set_cons_zero, List.set_cons_succ])
      (refine wpSeq_fix rfl rfl ?_; intro o ho; simp only [List.getElem?_toArray, List.getElem?_cons_zero, List.getElem?_cons_succ, Option.some.injEq] at ho; subst ho; intro K hK)
      go_simp
      refine (HSO.out A1 c3 (some ⟨w5.heap.size, 0, none⟩) 1 _ HCL5.out hc3 HVI.out (Nat.le_refl _)).mono ?_
      rintro e w7 ⟨hb, ⟨rfl, hno⟩ | ⟨g, L, rfl, hg, hbl, hL, hsat, hall⟩⟩
      ·
        have HF := Lib.hid (HNO.out k hno)
        replace HK5 := Lib.hid (HK5.out.step hb); replace HG5 := Lib.hid (HG5.out.step hb); replace HL5 := Lib.hid (HL5.out.step hb)
        clear hb hno
        (refine hK.out _ _ (fun _ => ⟨HK5.out.cell 0, HK5.out.cell 1⟩) ?_; clear hK K; try simp only [Act.put, List.setIfInBounds_toArray, List.set_cons_zero, List.set_cons_succ])
        (refine wpSeq_mov rfl rfl ?_; intro o ho; simp only [List.getElem?_toArray, List.getElem?_cons_zero, List.getElem?_cons_succ, Option.some.injEq] at ho; subst ho; refine ⟨?_, Or.inl ⟨by rfl, fun W hSW => ?_⟩, ?_⟩; rotate_left; (focus (go_simp; first | done | with_reducible rfl)); try simp only [Act.put, List.setIfInBounds_toArray, List.set_cons_zero, List.set_cons_succ])
        (refine wpSeq_mov rfl rfl ?_; intro o ho; simp only [List.getElem?_toArray, List.getElem?_cons_zero, List.getElem?_cons_succ, Option.some.injEq] at ho; subst ho; refine ⟨?_, Or.inl ⟨by rfl, fun W hSW => ?_⟩, ?_⟩; rotate_left; (focus (go_simp; first | done | with_reducible rfl)); try simp only [Act.put, List.setIfInBounds_toArray, List.set_cons_zero, List.set_cons_succ])
        (refine wpSeq_mov rfl rfl ?_; intro o ho; simp only [List.getElem?_toArray, List.getElem?_cons_zero, List.getElem?_cons_succ, Option.some.injEq] at ho; subst ho; refine ⟨?_, Or.inl ⟨by rfl, fun W hSW => ?_⟩, ?_⟩; rotate_left; (focus (go_simp; first | done | with_reducible rfl)); try simp only [Act.put, List.setIfInBounds_toArray, List.set_cons_zero, List.set_cons_succ])
        (refine wpSeq_mov rfl rfl ?_; intro o ho; simp only [List.getElem?_toArray, List.getElem?_cons_zero, List.getElem?_cons_succ, Option.some.injEq] at ho; subst ho; refine ⟨?_, Or.inl ⟨by rfl, fun W hSW => ?_⟩, ?_⟩; rotate_left; (focus (go_simp; first | done | with_reducible rfl)); try simp only [Act.put, List.setIfInBounds_toArray, List.set_cons_zero, List.set_cons_succ])
        (refine wpSeq_mov rfl rfl ?_; intro o ho; simp only [List.getElem?_toArray, List.getElem?_cons_zero, List.getElem?_cons_succ, Option.some.injEq] at ho; subst ho; refine ⟨?_, Or.inl ⟨by rfl, fun W hSW => ?_⟩, ?_⟩; rotate_left; (focus (go_simp; first | done | with_reducible rfl)); try simp only [Act.put, List.setIfInBounds_toArray, List.set_cons_zero, List.set_cons_succ])
        (refine wpSeq_mov rfl rfl ?_; intro o ho; simp only [List.getElem?_toArray, List.getElem?_cons_zero, List.getElem?_cons_succ, Option.some.injEq] at ho; subst ho; refine ⟨?_, Or.inl ⟨by rfl, fun W hSW => ?_⟩, ?_⟩; rotate_left; (focus (go_simp; first | done | with_reducible rfl)); try simp only [Act.put, List.setIfInBounds_toArray, List.set_cons_zero, List.set_cons_succ])
        (refine wpSeq_mov rfl rfl ?_; intro o ho; simp only [List.getElem?_toArray, List.getElem?_cons_zero, List.getElem?_cons_succ, Option.some.injEq] at ho; subst ho; refine ⟨?_, Or.inl ⟨by rfl, fun W hSW => ?_⟩, ?_⟩; rotate_left; (focus (go_simp; first | done | with_reducible rfl)); try simp only [Act.put, List.setIfInBounds_toArray, List.set_cons_zero, List.set_cons_succ])
        refine wpSeq_done ?_
        rw [HF.out]
        go_wp2_with fail
        go_ret
        exact ⟨rfl, HL5.out.b⟩
      ·
        obtain ⟨hev, hany⟩ := HYES.out L hL hsat hall
        have HEVL := Lib.hid hev
        have HLL := Lib.hid hL
        have HBL : Hid (Vals w7 w7.heap.size (some ⟨g, 0, none⟩) (bools L)) := vals_of_blk hbl
        have HE2 := Lib.hid (fun (K : Option Addr) (ck : Nat) (W : World) (hp : Prs W W.heap.size B s.1.as) (hd : N ≤ ck) (hq : Vals W W.heap.size K (bools (insOf L N))) => by
          have hlen : (insOf L N).length = N := insOf_length (by omega)
          have := HEV.out (insOf L N) B d K ck W HG5.out.cap hp hlen (by omega) hq
          rw [hlen, hev] at this
          exact this)
        replace HK5 := Lib.hid (HK5.out.step hb); replace HG5 := Lib.hid (HG5.out.step hb); replace HL5 := Lib.hid (HL5.out.step hb)
        clear hb hsat hall hg hbl hL hev
        (refine hK.out _ _ (fun _ => ⟨HK5.out.cell 0, HK5.out.cell 1⟩) ?_; clear hK K; try simp only [Act.put, List.setIfInBounds_toArray, List.set_cons_zero, List.set_cons_succ])
        (refine wpSeq_mov rfl rfl ?_; intro o ho; simp only [List.getElem?_toArray, List.getElem?_cons_zero, List.getElem?_cons_succ, Option.some.injEq] at ho; subst ho; refine ⟨?_, Or.inl ⟨by rfl, fun W hSW => ?_⟩, ?_⟩; rotate_left; (focus (go_simp; first | done | with_reducible rfl)); try simp only [Act.put, List.setIfInBounds_toArray, List.set_cons_zero, List.set_cons_succ])
        (refine wpSeq_mov rfl rfl ?_; intro o ho; simp only [List.getElem?_toArray, List.getElem?_cons_zero, List.getElem?_cons_succ, Option.some.injEq] at ho; subst ho; refine ⟨?_, Or.inl ⟨by rfl, fun W hSW => ?_⟩, ?_⟩; rotate_left; (focus (go_simp; first | done | with_reducible rfl)); try simp only [Act.put, List.setIfInBounds_toArray, List.set_cons_zero, List.set_cons_succ])
        (refine wpSeq_mov rfl rfl ?_; intro o ho; simp only [List.getElem?_toArray, List.getElem?_cons_zero, List.getElem?_cons_succ, Option.some.injEq] at ho; subst ho; refine ⟨?_, Or.inl ⟨by rfl, fun W hSW => ?_⟩, ?_⟩; rotate_left; (focus (go_simp; first | done | with_reducible rfl)); try simp only [Act.put, List.setIfInBounds_toArray, List.set_cons_zero, List.set_cons_succ])
        (refine wpSeq_mov rfl rfl ?_; intro o ho; simp only [List.getElem?_toArray, List.getElem?_cons_zero, List.getElem?_cons_succ, Option.some.injEq] at ho; subst ho; refine ⟨?_, Or.inl ⟨by rfl, fun W hSW => ?_⟩, ?_⟩; rotate_left; (focus (go_simp; first | done | with_reducible rfl)); try simp only [Act.put, List.setIfInBounds_toArray, List.set_cons_zero, List.set_cons_succ])
        (refine wpSeq_mov rfl rfl ?_; intro o ho; simp only [List.getElem?_toArray, List.getElem?_cons_zero, List.getElem?_cons_succ, Option.some.injEq] at ho; subst ho; refine ⟨?_, Or.inl ⟨by rfl, fun W hSW => ?_⟩, ?_⟩; rotate_left; (focus (go_simp; first | done | with_reducible rfl)); try simp only [Act.put, List.setIfInBounds_toArray, List.set_cons_zero, List.set_cons_succ])
        (refine wpSeq_mov rfl rfl ?_; intro o ho; simp only [List.getElem?_toArray, List.getElem?_cons_zero, List.getElem?_cons_succ, Option.some.injEq] at ho; subst ho; refine ⟨?_, Or.inl ⟨by rfl, fun W hSW => ?_⟩, ?_⟩; rotate_left; (focus (go_simp; first | done | with_reducible rfl)); try simp only [Act.put, List.setIfInBounds_toArray, List.set_cons_zero, List.set_cons_succ])
        (refine wpSeq_mov rfl rfl ?_; intro o ho; simp only [List.getElem?_toArray, List.getElem?_cons_zero, List.getElem?_cons_succ, Option.some.injEq] at ho; subst ho; refine ⟨?_, Or.inl ⟨by rfl, fun W hSW => ?_⟩, ?_⟩; rotate_left; (focus (go_simp; first | done | with_reducible rfl)); try simp only [Act.put, List.setIfInBounds_toArray, List.set_cons_zero, List.set_cons_succ])
        refine wpSeq_done ?_
        rw [hany]
        clear hany
        clear HEV HNO HYES HBT HLT HSO HCL5 HVI
        have k0 := HK5.out.cell 0
        have c0 := HG5.out.c0
        have c1 := HG5.out.c1
        go_wp2_with fail
        go_loopw [15, 16] (fun x i wr => ∃ (j : Nat) (K : Option Addr) (ck : Nat), j ≤ N ∧ x = .slice K j ck ∧ i = .int .i64 ((j : Int) + 1) ∧ OwnF wr w7.heap.size 4 1 (.slice K j ck) j (bools (insOf L j)) ∧ Low w7 wr) (fun _ i _ => N + 1 - (intOf i).toNat)
        case atStart => exact ⟨0, none, 0, Nat.zero_le _, rfl, rfl, ⟨World.ownsRow_nil _ _ _ _⟩, Low.refl _⟩
        case round =>
          obtain ⟨j, K, ck, hj, rfl, rfl, hown, hlow⟩ := hrel
          have HO := Lib.hid hown
          have HR := Lib.hid hlow
          have HGr := Lib.hid (HG5.out.step hlow.b)
          have HKr := Lib.hid (HK5.out.step hlow.b)
          have hs7 := hlow.b.size
          clear hown hlow
          have k0 := HKr.out.cell 0
          have c0 := HGr.out.c0
          have c1 := HGr.out.c1
          by_cases hjN : j < N
          · have hlt' : (j : Int) + 1 ≤ s.1.n := by rw [HN.out]; omega
            have hjV : (j : Int) + 1 < (V : Int) := by omega
            obtain ⟨b, hb⟩ : ∃ b, L[j + 1]? = some b := ⟨_, List.getElem?_eq_getElem (by rw [HLL.out]; omega)⟩
            have HBJ := Lib.hid (insOf_succ hb)
            have q1 := Vals.cell0 (HBL.out.after HR.out.b) (bools_get hb)
            have hto : ((j : Int) + 1).toNat = j + 1 := by omega
            obtain ⟨i0, hi0, hz0, hz1, hz2⟩ := info_parts boolInfo
            clear hb
            go_wp2_with (first | (at_builtin; refine wpList_append_vals _ rfl (.tmp 72) (.tmp 77) _ rfl w7.heap.size 4 i0 _ 1 1 Try.underlying27 hi0 hz0 hz1 hz2 rfl (by omega) (.slice K j ck) j (bools (insOf L j)) rfl (HO.out.p.alloc _) _ _ 1 1 [.bool b] rfl rfl (vals_new wr [.bool b] 4) (bools_one [b]) (by unfold maxLen; omega) (by omega) (by simp; omega) ?_; intro v8 w8 hown8 hg8; have HO8 := Lib.hid hown8; have HR8 := Lib.hid ((HR.out.step (stepA wr (.cells #[.bool b] 4))).grown hg8 (own_block HO.out.p)); clear hown8 hg8))
            go_roundw
            case rel =>
              obtain ⟨A6, c6, hv6, _⟩ := own_form HO8.out
              subst hv6
              refine ⟨j + 1, A6, c6, by omega, rfl, by go_num, ⟨?_⟩, HR8.out⟩
              rw [HBJ.out, bools_append]
              exact HO8.out
            case measure => simp [intOf]; omega
          · have hlt' : ¬ (j : Int) + 1 ≤ s.1.n := by rw [HN.out]; omega
            obtain rfl : j = N := by omega
            have HEE := Lib.hid (HE2.out K ck wr HGr.out.prs (own_cap HO.out.p) (Vals.of_own HO.out.p))
            go_wp2_with fail
            refine HEE.out.mono ?_
            rintro e w9 ⟨rfl, hb⟩
            have HL9 := Lib.hid ((HL5.out.step HR.out.b).step hb)
            clear hb
            go_wp2_with fail
            go_ret
            exact ⟨rfl, HL9.out.b⟩
end Go.Proofs.Ytbkmgblijncjhaa
