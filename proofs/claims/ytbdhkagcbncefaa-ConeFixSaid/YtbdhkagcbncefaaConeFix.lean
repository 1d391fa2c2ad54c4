/- ConeFix's walk. -/
import Derived.Test.YtbdhkagcbncefaaG6
import Derived.Test.YtbdhkagcbncefaaG5
set_option linter.unusedVariables false
set_option linter.unusedSimpArgs false
namespace Go.Proofs.Ytbdhkagcbncefaa
open Go.RowKit Go.Maps

set_option maxRecDepth 100000 in
set_option maxHeartbeats 4000000 in
theorem coneFix_any (n : Int) (xs : List Int) (A : Option Addr) (cp : Nat) (a : Int) (val : Bool) (q : Int) (w : World) (hn : 0 ≤ n ∧ n ≤ 255) (hx : U16 xs) (hcp : xs.length ≤ cp) (hcl : cp ≤ 70368744177664) (hp : Vals w w.heap.size A (u16s xs)) (ha : 0 ≤ a ∧ a ≤ 255) (hq : 0 ≤ q ∧ q ≤ 255) :
    Calls Try.prog 24 #[.int .u8 n, .slice A xs.length cp, .int .u8 a, .bool val, .int .u8 q] w (Ret w (.bool true)) := by
  have hnot := @not_run Try.prog
  have HM := Lib.hid (fun (w1 : World) (h : Below w.heap.size w w1) => made_any (1 + n % 6) xs A cp w1 (by omega) (by omega) hx (by omega) (hp.after h))
  have HI := Lib.hid (madeG_inv (n := 1 + n % 6) (by omega) (by omega) xs)
  generalize madeG (1 + n % 6) xs = s at HM HI
  have n0 : 0 ≤ s.1.n := by rw [HI.out.n]; omega
  have n1 : s.1.n ≤ 6 := by rw [HI.out.n]; omega
  have l1 : s.1.as.length ≤ 40 := HI.out.len
  obtain ⟨N, hN⟩ : ∃ N : Nat, s.1.n = (N : Int) := ⟨s.1.n.toNat, by omega⟩
  have HN := Lib.hid hN
  have hN6 : N ≤ 6 := by omega
  have hll := lit_lt HI.out.lit
  have hl1 : s.2 ≤ 9223372036854775807 := by unfold Gr.vars at hll; omega
  clear hN hll
  have np : 1 ≤ s.1.n := by rw [HI.out.n]; omega
  have hmz : (s.1.n == 0) = false := by rw [beq_eq_false_iff_ne]; omega
  obtain ⟨K, hKe⟩ : ∃ K, K = 1 + a % s.1.n := ⟨_, rfl⟩
  have k1 : 1 ≤ K := by have := Int.emod_nonneg a (b := s.1.n) (by omega); omega
  have k2 : K ≤ s.1.n := by have := Int.emod_lt_of_pos a (b := s.1.n) (by omega); omega
  obtain ⟨h, r, hf⟩ := fixed_of (v := val) HI.out.right HI.out.lit k1 k2 (by unfold Gr.vars; omega)
  have HFX := Lib.hid hf
  have r0 : 0 ≤ r := litB_ge hf.grows.lit
  have r1 : r ≤ 9223372036854775807 := by have := lit_lt hf.grows.lit; have := right_vars hf.grows.right; omega
  have hsl : ((suppG h r).length : Int) ≤ 6 := by have := suppG_len (l := r) hf.grows.right; have := hf.grows.n; omega
  have hok := ok_of_right hf.grows.right
  have HC := Lib.hid (fun (B : Option Addr) (d : Nat) (W : World) (h1 : s.1.as.length ≤ d) (h2 : Prs W W.heap.size B s.1.as) => cfix_any s.1 s.2 K val B d W HI.out.ok hl1 (by omega) h1 h2)
  rw [hf.is] at HC
  have HSU := Lib.hid (fun (B : Option Addr) (d : Nat) (W : World) (h2 : Prs W W.heap.size B h.as) => support_any h r B d W hok r1 h2)
  have HSX : Hid (∀ i x, (suppG h r)[i]? = some x → x ≠ K) := fun i x hx => (hf.supp x (List.mem_of_getElem? hx)).1
  have HEV := Lib.hid (fun (us : List Bool) (hu : us.length = N) (B I : Option Addr) (d ci : Nat) (W : World) (h1 : h.as.length ≤ d) (h2 : Prs W W.heap.size B h.as) (h3 : us.length ≤ ci) (h4 : Vals W W.heap.size I (bools us)) => reval_any h r us B I d ci W hok h1 h2 h3 (by omega) h4 r1)
  have HEW := Lib.hid (fun (us : List Bool) (hu : us.length = N) (B I : Option Addr) (d ci : Nat) (W : World) (h1 : s.1.as.length ≤ d) (h2 : Prs W W.heap.size B s.1.as) (h3 : us.length ≤ ci) (h4 : Vals W W.heap.size I (bools us)) => reval_any s.1 s.2 us B I d ci W HI.out.ok h1 h2 h3 (by omega) h4 hl1)
  generalize suppG h r = S at HSU HSX hsl
  have hKe' := hKe.symm
  clear hx hp hKe hf hok
  go_enter Try.func24, Try.ntmps24
  go_wp2_with fail
  refine (awake3_any _).mono ?_
  rintro e w0 ⟨rfl, hb⟩
  have HL := Lib.hid ((Low.refl w).step hb)
  clear hb
  go_wp2_with fail
  refine (HM.out w0 HL.out.b).mono ?_
  rintro e w1 ⟨B, d, rfl, hc1, hp1, hb⟩
  replace HL := Lib.hid (HL.out.step hb)
  replace HL := Lib.hid (HL.out.step (stepA w1 (.cells #[.int .i64 s.1.n, .slice B s.1.as.length d] 24)))
  have HG := Lib.hid (GBox.new hc1 hp1)
  clear hb hp1 hc1 HM
  have c0 := HG.out.c0
  have c1 := HG.out.c1
  go_wp2_with fail
  try rw [hKe']
  refine (HC.out B d _ HG.out.cap HG.out.prs).mono ?_
  rintro e w2 ⟨B2, d2, rfl, hc2, hp2, hb⟩
  simp only at hc2 hp2 ⊢
  replace HL := Lib.hid (HL.out.step hb); replace HG := Lib.hid (HG.out.step hb)
  replace HL := Lib.hid (HL.out.step (stepA w2 (.cells #[.int .i64 h.n, .slice B2 h.as.length d2] 24))); replace HG := Lib.hid (HG.out.step (stepA w2 (.cells #[.int .i64 h.n, .slice B2 h.as.length d2] 24)))
  have HH := Lib.hid (GBox.new hc2 hp2)
  clear hb hp2 c0 c1 HC
  have c0 := HH.out.c0
  have c1 := HH.out.c1
  go_wp2_with fail
  refine (HSU.out B2 d2 _ HH.out.prs).mono ?_
  rintro e w3 ⟨A3, c3, rfl, hc3, hv3, hb⟩
  replace HL := Lib.hid (HL.out.step hb); replace HG := Lib.hid (HG.out.step hb); replace HH := Lib.hid (HH.out.step hb)
  have HV : Hid (ValsF w3 A3 (i64s S)) := ⟨hv3⟩
  clear hb hv3 c0 c1 HSU
  go_wp2_with fail
  go_loopw [11, 19] (fun o i wr => ∃ k : Nat, k ≤ S.length ∧ o = .bool true ∧ i = .int .i64 k ∧ Low w3 wr) (fun _ i _ => S.length - (intOf i).toNat)
  case atStart => exact ⟨0, Nat.zero_le _, rfl, rfl, Low.refl _⟩
  case round =>
    obtain ⟨k, hk, rfl, rfl, hlow⟩ := hrel
    replace HL := Lib.hid (HL.out.step hlow.b); replace HG := Lib.hid (HG.out.step hlow.b); replace HH := Lib.hid (HH.out.step hlow.b); replace HV := Lib.hid (HV.out.step hlow.b)
    have HW := Lib.hid hlow
    clear hlow
    by_cases hlt : k < S.length
    · have hlt' : (k : Int) < (S.length : Int) := by omega
      obtain ⟨x, hxk⟩ : ∃ x, S[k]? = some x := ⟨_, List.getElem?_eq_getElem hlt⟩
      obtain ⟨b', o', rfl, _, q1⟩ := HV.out.p k _ (i64s_at hxk)
      have hne : (x != K) = true := by rw [bne_iff_ne]; exact HSX.out k x hxk
      clear hxk
      go_wp2_with fail
      go_roundw
      case rel => exact ⟨k + 1, by omega, rfl, by go_num, HW.out⟩
      case measure => simp [intOf]; omega
    · have hlt' : ¬ ((k : Int) < (S.length : Int)) := by omega
      have HBT : Hid (∀ W : World, Calls Try.prog 36 #[.int .i64 q, .int .i64 s.1.n] W (RetB W (bitsG q N))) := fun W => by rw [HN.out]; exact bits_any q N W (by omega) (by omega) (by omega)
      have HXv : Hid ((bitsG q N).length = N) := bitsG_length _ _
      generalize bitsG q N = v at HBT HXv
      have c0 := HG.out.c0
      have c1 := HG.out.c1
      have hN1 : 0 < N := by have := HN.out; omega
      obtain ⟨M, hM⟩ : ∃ M : Nat, K = (M : Int) + 1 := ⟨(K - 1).toNat, by omega⟩
      have HMM := Lib.hid hM
      have hMN : M < N := by have := HN.out; omega
      obtain ⟨y, hy⟩ : ∃ y, v[M]? = some y := ⟨_, List.getElem?_eq_getElem (by rw [HXv.out]; exact hMN)⟩
      have HY := Lib.hid hy
      obtain ⟨i0, hi0, hz0, hz1, hz2⟩ := info_parts boolInfo
      have hvn : (v.length : Int) = s.1.n := by rw [HXv.out, HN.out]
      have HSE := Lib.hid (HFX.out.sem v hvn)
      rw [show (K - 1).toNat = M from by omega] at HSE
      clear hy hM hvn
      go_wp2_with fail
      refine (HBT.out _).mono ?_
      rintro e w4 ⟨A4, c4, rfl, hc4, hv, hb⟩
      replace HL := Lib.hid (HL.out.step hb); replace HG := Lib.hid (HG.out.step hb); replace HH := Lib.hid (HH.out.step hb)
      have HVv : Hid (ValsF w4 A4 (bools v)) := ⟨hv⟩
      rw [HXv.out] at hc4 ⊢
      clear hb hv HBT c0 c1 HV
      have hM1 : K - 1 = (M : Int) := by have := HMM.out; omega
      have hMl : (M : Int) < (N : Int) := by omega
      go_wp2_with ((at_builtin; go_loud (refine wpList_append_vals _ rfl (.const (.slice none 0 0)) (.tmp 72) _ rfl w4.heap.size 4 i0 _ 1 1 Try.underlying25 hi0 hz0 hz1 hz2 rfl (by omega) (.slice none 0 0) 0 [] rfl (World.ownsRow_nil _ _ _ _) _ A4 N c4 (bools v) rfl (by simp [bools_length, HXv.out]) HVv.out.p (bools_one _) (by unfold maxLen; omega) (by omega) (Nat.le_refl _) ?_); go_loud (intro v7 w7 hown7 hg7); go_loud (obtain ⟨g7, c7, hv7, hgb7, hc7, hf7, hV7⟩ := own_read hown7 (by omega)); go_loud (rw [Nat.zero_add] at hv7 hc7); go_loud (rw [List.nil_append] at hV7); go_loud (rw [hv7]); go_loud (clear hv7); go_loud (have HV7 : Hid (Vals w7 w7.heap.size (some ⟨g7, 0, none⟩) (bools v)) := hV7); go_loud (have HB7 := Lib.hid (grown_nil hg7)); go_loud (have q7 := Vals.cell0 HV7.out (bools_get HY.out)); go_loud (have f7 := hf7 M); go_loud (clear hf7 hV7 hown7 hg7)))
      have hb8 := Lib.hid (HB7.out.setCell (p := ⟨g7, M, none⟩) hgb7 (.bool val))
      replace HL := Lib.hid (HL.out.step hb8.out); replace HG := Lib.hid (HG.out.step hb8.out); replace HH := Lib.hid (HH.out.step hb8.out); replace HVv := Lib.hid (HVv.out.step hb8.out)
      have HT8 : Hid (ValsF (w7.setCell ⟨g7, M, none⟩ (.bool val)) (some ⟨g7, 0, none⟩) (bools (v.set M val))) := by
        have h9 := Vals.set_ (K := M) (u := .bool val) HV7.out (by rw [bools_length, HXv.out]; exact hMN)
        rw [bools_set1]
        exact ⟨h9.more (by simp)⟩
      clear q7 f7 hb8 HB7 HV7
      obtain ⟨w8, hw8⟩ : ∃ w8, w7.setCell ⟨g7, M, none⟩ (.bool val) = w8 := ⟨_, rfl⟩
      rw [hw8] at HL HG HH HVv HT8 ⊢
      clear hw8
      have HE1 := Lib.hid (HEV.out v HXv.out)
      have HE2 := Lib.hid (HEW.out (v.set M val) (by rw [List.length_set]; exact HXv.out))
      rw [HSE.out] at HE1
      rw [List.length_set, HXv.out] at HE2
      rw [HXv.out] at HE1
      replace HL := Lib.hid (HL.out.step (stepD1 _)); replace HG := Lib.hid (HG.out.step (stepD1 _)); replace HH := Lib.hid (HH.out.step (stepD1 _)); replace HVv := Lib.hid (HVv.out.step (stepD1 _)); replace HT8 := Lib.hid (HT8.out.step (stepD1 _))
      refine wp_region_noPanic ?_
      refine wp_region_seq (fun W => W.cell? ⟨w2.heap.size, 0, none⟩ = some (.int .i64 h.n) ∧ W.cell? ⟨w2.heap.size, 1, none⟩ = some (.slice B2 h.as.length d2) ∧ W.cell? ⟨w1.heap.size, 0, none⟩ = some (.int .i64 s.1.n) ∧ W.cell? ⟨w1.heap.size, 1, none⟩ = some (.slice B s.1.as.length d)) [0, 1, 2, 3, 4, 5, 6, 7, 8, 10, 11, 12, 9, 13, 14, 15, 16] [0, 1, 2, 3, 4, 5, 6, 7, 8, 10, 11, 12, 14, 15, 16] [] (by kernel_rfl) (by kernel_rfl) rfl (by kernel_rfl) (by kernel_rfl) (fun _ _ _ _ _ h => h) ?_ (fun hSS => ?_)
      · exact ⟨HH.out.c0, HH.out.c1, HG.out.c0, HG.out.c1⟩
      clear hSS
      (refine wpSeq_mov rfl rfl ?_; intro o ho; simp only [List.getElem?_toArray, List.getElem?_cons_zero, List.getElem?_cons_succ, Option.some.injEq] at ho; subst ho; refine ⟨?_, Or.inl ⟨by rfl, fun W hSW => ?_⟩, ?_⟩; rotate_left; (focus (go_simp; first | done | with_reducible rfl)); try simp only [Act.put, List.setIfInBounds_toArray, List.set_cons_zero, List.set_cons_succ])
      (refine wpSeq_mov rfl rfl ?_; intro o ho; simp only [List.getElem?_toArray, List.getElem?_cons_zero, List.getElem?_cons_succ, Option.some.injEq] at ho; subst ho; refine ⟨?_, Or.inl ⟨by rfl, fun W hSW => ?_⟩, ?_⟩; rotate_left; (focus (go_simp; first | done | with_reducible rfl)); try simp only [Act.put, List.setIfInBounds_toArray, List.set_cons_zero, List.set_cons_succ])
      (refine wpSeq_mov rfl rfl ?_; intro o ho; simp only [List.getElem?_toArray, List.getElem?_cons_zero, List.getElem?_cons_succ, Option.some.injEq] at ho; subst ho; refine ⟨?_, Or.inl ⟨by rfl, fun W hSW => ?_⟩, ?_⟩; rotate_left; (focus (go_simp; first | done | with_reducible rfl)); try simp only [Act.put, List.setIfInBounds_toArray, List.set_cons_zero, List.set_cons_succ])
      (refine wpSeq_mov rfl rfl ?_; intro o ho; simp only [List.getElem?_toArray, List.getElem?_cons_zero, List.getElem?_cons_succ, Option.some.injEq] at ho; subst ho; refine ⟨?_, Or.inl ⟨by rfl, fun W hSW => ?_⟩, ?_⟩; rotate_left; (focus (go_simp; first | done | with_reducible rfl)); try simp only [Act.put, List.setIfInBounds_toArray, List.set_cons_zero, List.set_cons_succ])
      (refine wpSeq_mov rfl rfl ?_; intro o ho; simp only [List.getElem?_toArray, List.getElem?_cons_zero, List.getElem?_cons_succ, Option.some.injEq] at ho; subst ho; refine ⟨?_, Or.inl ⟨by rfl, fun W hSW => ?_⟩, ?_⟩; rotate_left; (focus (go_simp; first | done | with_reducible rfl)); try simp only [Act.put, List.setIfInBounds_toArray, List.set_cons_zero, List.set_cons_succ])
      (refine wpSeq_mov rfl rfl ?_; intro o ho; simp only [List.getElem?_toArray, List.getElem?_cons_zero, List.getElem?_cons_succ, Option.some.injEq] at ho; subst ho; refine ⟨?_, Or.inl ⟨by rfl, fun W hSW => ?_⟩, ?_⟩; rotate_left; (focus (go_simp; first | done | with_reducible rfl)); try simp only [Act.put, List.setIfInBounds_toArray, List.set_cons_zero, List.set_cons_succ])
      (refine wpSeq_mov rfl rfl ?_; intro o ho; simp only [List.getElem?_toArray, List.getElem?_cons_zero, List.getElem?_cons_succ, Option.some.injEq] at ho; subst ho; refine ⟨?_, Or.inl ⟨by rfl, fun W hSW => ?_⟩, ?_⟩; rotate_left; (focus (go_simp; first | done | with_reducible rfl)); try simp only [Act.put, List.setIfInBounds_toArray, List.set_cons_zero, List.set_cons_succ])
      (refine wpSeq_mov rfl rfl ?_; intro o ho; simp only [List.getElem?_toArray, List.getElem?_cons_zero, List.getElem?_cons_succ, Option.some.injEq] at ho; subst ho; refine ⟨?_, Or.inl ⟨by rfl, fun W hSW => ?_⟩, ?_⟩; rotate_left; (focus (go_simp; first | done | with_reducible rfl)); try simp only [Act.put, List.setIfInBounds_toArray, List.set_cons_zero, List.set_cons_succ])
      (refine wpSeq_mov rfl rfl ?_; intro o ho; simp only [List.getElem?_toArray, List.getElem?_cons_zero, List.getElem?_cons_succ, Option.some.injEq] at ho; subst ho; refine ⟨?_, Or.inl ⟨by rfl, fun W hSW => ?_⟩, ?_⟩; rotate_left; (focus (go_simp; first | done | with_reducible rfl)); try simp only [Act.put, List.setIfInBounds_toArray, List.set_cons_zero, List.set_cons_succ])
      (refine wpSeq_mov rfl rfl ?_; intro o ho; simp only [List.getElem?_toArray, List.getElem?_cons_zero, List.getElem?_cons_succ, Option.some.injEq] at ho; subst ho; refine ⟨?_, Or.inl ⟨by rfl, fun W hSW => ?_⟩, ?_⟩; rotate_left; (focus (go_simp; first | done | with_reducible rfl)); try simp only [Act.put, List.setIfInBounds_toArray, List.set_cons_zero, List.set_cons_succ])
      (refine wpSeq_mov rfl rfl ?_; intro o ho; simp only [List.getElem?_toArray, List.getElem?_cons_zero, List.getElem?_cons_succ, Option.some.injEq] at ho; subst ho; refine ⟨?_, Or.inl ⟨by rfl, fun W hSW => ?_⟩, ?_⟩; rotate_left; (focus (go_simp; first | done | with_reducible rfl)); try simp only [Act.put, List.setIfInBounds_toArray, List.set_cons_zero, List.set_cons_succ])
      (refine wpSeq_mov rfl rfl ?_; intro o ho; simp only [List.getElem?_toArray, List.getElem?_cons_zero, List.getElem?_cons_succ, Option.some.injEq] at ho; subst ho; refine ⟨?_, Or.inl ⟨by rfl, fun W hSW => ?_⟩, ?_⟩; rotate_left; (focus (go_simp; first | done | with_reducible rfl)); try simp only [Act.put, List.setIfInBounds_toArray, List.set_cons_zero, List.set_cons_succ])
      (refine wpSeq_fix rfl rfl ?_; intro o ho; simp only [List.getElem?_toArray, List.getElem?_cons_zero, List.getElem?_cons_succ, Option.some.injEq] at ho; subst ho; intro K hK)
      go_simp
      refine (HE1.out B2 A4 d2 c4 _ HH.out.cap HH.out.prs hc4 HVv.out.p).mono ?_
      rintro e w9 ⟨rfl, hb⟩
      replace HL := Lib.hid (HL.out.step hb); replace HG := Lib.hid (HG.out.step hb); replace HH := Lib.hid (HH.out.step hb); replace HT8 := Lib.hid (HT8.out.step hb)
      clear hb
      (refine hK.out _ _ (fun _ => ⟨HH.out.c0, HH.out.c1, HG.out.c0, HG.out.c1⟩) ?_; clear hK K; try simp only [Act.put, List.setIfInBounds_toArray, List.set_cons_zero, List.set_cons_succ])
      (refine wpSeq_fix rfl rfl ?_; intro o ho; simp only [List.getElem?_toArray, List.getElem?_cons_zero, List.getElem?_cons_succ, Option.some.injEq] at ho; subst ho; intro K hK)
      go_simp
      refine (HE2.out B (some ⟨g7, 0, none⟩) d c7 _ HG.out.cap HG.out.prs hc7 HT8.out.p).mono ?_
      rintro e w10 ⟨rfl, hb⟩
      replace HL := Lib.hid (HL.out.step hb); replace HG := Lib.hid (HG.out.step hb); replace HH := Lib.hid (HH.out.step hb)
      clear hb
      (refine hK.out _ _ (fun _ => ⟨HH.out.c0, HH.out.c1, HG.out.c0, HG.out.c1⟩) ?_; clear hK K; try simp only [Act.put, List.setIfInBounds_toArray, List.set_cons_zero, List.set_cons_succ])
      (refine wpSeq_mov rfl rfl ?_; intro o ho; simp only [List.getElem?_toArray, List.getElem?_cons_zero, List.getElem?_cons_succ, Option.some.injEq] at ho; subst ho; refine ⟨?_, Or.inl ⟨by rfl, fun W hSW => ?_⟩, ?_⟩; rotate_left; (focus (go_simp; first | done | with_reducible rfl)); try simp only [Act.put, List.setIfInBounds_toArray, List.set_cons_zero, List.set_cons_succ])
      (refine wpSeq_mov rfl rfl ?_; intro o ho; simp only [List.getElem?_toArray, List.getElem?_cons_zero, List.getElem?_cons_succ, Option.some.injEq] at ho; subst ho; refine ⟨?_, Or.inl ⟨by rfl, fun W hSW => ?_⟩, ?_⟩; rotate_left; (focus (go_simp; first | done | with_reducible rfl)); try simp only [Act.put, List.setIfInBounds_toArray, List.set_cons_zero, List.set_cons_succ])
      (refine wpSeq_mov rfl rfl ?_; intro o ho; simp only [List.getElem?_toArray, List.getElem?_cons_zero, List.getElem?_cons_succ, Option.some.injEq] at ho; subst ho; refine ⟨?_, Or.inl ⟨by rfl, fun W hSW => ?_⟩, ?_⟩; rotate_left; (focus (go_simp; first | done | with_reducible rfl)); try simp only [Act.put, List.setIfInBounds_toArray, List.set_cons_zero, List.set_cons_succ])
      refine wpSeq_done ?_
      go_wp2_with fail
      go_ret
      exact ⟨rfl, HL.out.b⟩
end Go.Proofs.Ytbdhkagcbncefaa
