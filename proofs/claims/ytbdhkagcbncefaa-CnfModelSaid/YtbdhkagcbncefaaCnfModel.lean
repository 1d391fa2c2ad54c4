/- CnfModel's walk. -/
import Derived.Test.YtbdhkagcbncefaaG4
import Derived.Test.YtbdhkagcbncefaaG3
set_option linter.unusedVariables false
set_option linter.unusedSimpArgs false
namespace Go.Proofs.Ytbdhkagcbncefaa
open Go.RowKit Go.Maps

theorem Vals.set_ {w : World} {B g K : Nat} {xs : List Value} {u : Value} (h : Vals w B (some ⟨g, 0, none⟩) xs) (hK : K < xs.length) : Vals (w.setCell ⟨g, K, none⟩ u) B (some ⟨g, 0, none⟩) (xs.set K u) := fun i x hi => by
  by_cases e : i = K
  · subst e
    rw [List.getElem?_set_self hK] at hi
    cases hi
    obtain ⟨b, o, e1, hb, hc⟩ := h i _ (List.getElem?_eq_getElem hK)
    cases e1
    refine ⟨g, 0, rfl, hb, ?_⟩
    rw [Nat.zero_add] at hc ⊢
    exact World.cell?_setCell_same _ _ _ hc
  · rw [List.getElem?_set_ne (fun e' => e e'.symm)] at hi
    obtain ⟨b, o, e1, hb, hc⟩ := h i _ hi
    cases e1
    refine ⟨g, 0, rfl, hb, ?_⟩
    rw [World.cell?_setCell_other _ _ _ _ (by first | (simp; done) | (simp; omega))]
    exact hc
theorem own_block_of {w : World} {base : Nat} {e : TypeId} {n : Nat} {v : Value} {xs : List Value} (h : w.ownsRow base e 1 v n xs) (hn : 0 < n) : ∃ g c, v = .slice (some ⟨g, 0, none⟩) n c ∧ base ≤ g ∧ n ≤ c ∧ ∀ i, w.frozen? ⟨g, i, none⟩ = false := by
  rcases h.2 with ⟨_, h0⟩ | ⟨g, cap, cur, hv, hg, hh, hnc, hcm, hcs, htk⟩
  · omega
  · exact ⟨g, cap, hv, hg, hnc, fun i => Blk.frozen (t := e) (cs := cur) hh i⟩
theorem own_read {w : World} {base : Nat} {e : TypeId} {n : Nat} {v : Value} {xs : List Value} (h : w.ownsRow base e 1 v n xs) (hn : 0 < n) : ∃ g c, v = .slice (some ⟨g, 0, none⟩) n c ∧ base ≤ g ∧ n ≤ c ∧ (∀ i, w.frozen? ⟨g, i, none⟩ = false) ∧ Vals w w.heap.size (some ⟨g, 0, none⟩) xs := by
  obtain ⟨g, c, hv, h1, h2, h3⟩ := own_block_of h hn
  rw [hv] at h
  exact ⟨g, c, hv, h1, h2, h3, Vals.of_own h⟩
theorem Vals.cell0 {w : World} {B g k : Nat} {xs : List Value} {u : Value} (h : Vals w B (some ⟨g, 0, none⟩) xs) (hk : xs[k]? = some u) : w.cell? ⟨g, k, none⟩ = some u := by
  obtain ⟨b, o, e, _, hc⟩ := h k u hk
  cases e
  rw [Nat.zero_add] at hc
  exact hc
theorem grown_nil {w w' : World} {n c : Nat} (h : w.grownBy w' (Value.slice none n c).ownBlock) : Below w.heap.size w w' := (Below.refl _ _).grown h (Nat.le_refl _) (fun k hk => by simp [Value.ownBlock] at hk)
theorem begins_three (k x y z : Int) : begins k [x, y, z] = (x == k) := by simp [begins]
theorem begins_not {k : Int} {c : List Int} (h : c.length ≠ 3) : begins k c = false := by simp [begins, h]
theorem any_take_succ {α : Type} {f : α → Bool} {xs : List α} {i : Nat} {x : α} (h : xs[i]? = some x) : (xs.take (i + 1)).any f = ((xs.take i).any f || f x) := by
  rw [List.take_add_one, h, Option.toList_some, List.any_append]
  simp
theorem three_of {l : List Int} (h : l.length = 3) : ∃ x y z, l = [x, y, z] := by
  match l, h with
  | [x, y, z], _ => exact ⟨x, y, z, rfl⟩

set_option maxRecDepth 100000 in
set_option maxHeartbeats 4000000 in
theorem cnfModel_any (n : Int) (xs : List Int) (A : Option Addr) (cp : Nat) (a q : Int) (w : World) (hn : 0 ≤ n ∧ n ≤ 255) (hx : U16 xs) (hcp : xs.length ≤ cp) (hcl : cp ≤ 70368744177664) (hp : Vals w w.heap.size A (u16s xs)) (ha : 0 ≤ a ∧ a ≤ 255) (hq : 0 ≤ q ∧ q ≤ 255) :
    Calls Try.prog 17 #[.int .u8 n, .slice A xs.length cp, .int .u8 a, .int .u8 q] w (Ret w (.bool true)) := by
  have hnot := @not_run Try.prog
  have HM := Lib.hid (fun (w1 : World) (h : Below w.heap.size w w1) => made_any (n % 7) xs A cp w1 (by omega) (by omega) hx (by omega) (hp.after h))
  have HI := Lib.hid (madeG_inv (n := n % 7) (by omega) (by omega) xs)
  generalize madeG (n % 7) xs = s at HM HI
  have n0 : 0 ≤ s.1.n := by rw [HI.out.n]; omega
  have n1 : s.1.n ≤ 6 := by rw [HI.out.n]; omega
  have l1 : s.1.as.length ≤ 40 := HI.out.len
  obtain ⟨N, hN⟩ : ∃ N : Nat, s.1.n = (N : Int) := ⟨s.1.n.toNat, by omega⟩
  have HN := Lib.hid hN
  have hN6 : N ≤ 6 := by omega
  have hll := lit_lt HI.out.lit
  have hl1 : s.2 ≤ 9223372036854775807 := by unfold Gr.vars at hll; omega
  clear hN hll
  obtain ⟨V, hV⟩ : ∃ V, V = s.1.n + 1 + (s.1.as.length : Int) := ⟨_, rfl⟩
  obtain ⟨cs, hcs⟩ : ∃ cs, cs = clausesAt s.1 s.2 s.1.as.length := ⟨_, rfl⟩
  have e1 : cnfG s.1 s.2 = (V, cs, 0) := by rw [cnfG_yes HI.out.right HI.out.lit, hcs, hV]; rfl
  have HLS : Hid (∀ l ∈ cs, l.length ≤ 3) := fun l hl => by rw [hcs] at hl; exact clausesAt_small _ _ _ l hl
  have hcl3 : cs.length ≤ 200 := by have := clausesAt_length s.1 s.2 s.1.as.length; rw [hcs]; omega
  have HC1 := Lib.hid (fun (B : Option Addr) (d : Nat) (w1 : World) (k2 : Prs w1 w1.heap.size B s.1.as) => cof_any s.1 s.2 B d w1 HI.out.ok hl1 k2)
  rw [e1] at HC1
  have HSM : Hid (∀ v : List Bool, (v.length : Int) = s.1.n → soC V cs (allG s.1 v) = true) := fun v hv => by rw [hcs, show V = s.1.vars from hV]; exact soC_model HI.out.right hv s.2
  have HST : Hid (∀ v : List Bool, (v.length : Int) = s.1.n → ∀ (k : Nat) b, (allG s.1 v)[k]? = some b → (k = 0 ∨ cs.any (begins ((k : Int) + 1)) = true) → soC V cs ((allG s.1 v).set k (!b)) = false) := fun v hv k b hk h => by
    rw [hcs] at h ⊢
    rw [show V = s.1.vars from hV]
    exact soC_turned HI.out.right hv s.2 hk h
  have HAL : Hid (∀ v : List Bool, (v.length : Int) = s.1.n → ((allG s.1 v).length : Int) = s.1.n + 1 + s.1.as.length) := fun v hv => allG_len HI.out.right hv
  clear e1 hV hcs hx hp
  go_enter Try.func17, Try.ntmps17
  go_wp2_with fail
  refine (awake14_any _).mono ?_
  rintro e w0 ⟨rfl, hb⟩
  have HL := Lib.hid ((Low.refl w).step hb)
  clear hb
  go_wp2_with fail
  refine (HM.out w0 HL.out.b).mono ?_
  rintro e w1 ⟨B, d, rfl, hc1, hp1, hb⟩
  replace HL := Lib.hid (HL.out.step hb)
  replace HL := Lib.hid (HL.out.step (stepA w1 (.cells #[.int .i64 s.1.n, .slice B s.1.as.length d] 24)))
  have HG := Lib.hid (GBox.new hc1 hp1)
  clear hb hp1 hc1 HM
  have c0 := HG.out.c0
  have c1 := HG.out.c1
  go_wp2_with fail
  refine (HC1.out B d _ HG.out.prs).mono ?_
  rintro e w3 ⟨A1, c3, rfl, hc3, hcl, hb⟩
  simp only at hc3 hcl ⊢
  replace HL := Lib.hid (HL.out.step hb); replace HG := Lib.hid (HG.out.step hb)
  have HCL : Hid (Cls _ _ A1 _) := hcl.after (stepA w3 (.cells #[.int .i64 V, .slice A1 cs.length c3] 57))
  have HK := Lib.hid (BlkF.new w3 57 #[.int .i64 V, .slice A1 cs.length c3])
  replace HL := Lib.hid (HL.out.step (stepA w3 (.cells #[.int .i64 V, .slice A1 cs.length c3] 57))); replace HG := Lib.hid (HG.out.step (stepA w3 (.cells #[.int .i64 V, .slice A1 cs.length c3] 57)))
  clear hcl hb c0 c1 HC1
  have HBT : Hid (∀ W : World, Calls Try.prog 36 #[.int .i64 a, .int .i64 s.1.n] W (RetB W (bitsG a N))) := fun W => by rw [HN.out]; exact bits_any a N W (by omega) (by omega) (by omega)
  have HXv : Hid ((bitsG a N).length = N) := bitsG_length _ _
  generalize bitsG a N = v at HBT HXv
  have hvn : (v.length : Int) = s.1.n := by rw [HXv.out, HN.out]
  have HVN := Lib.hid hvn
  have hvl : v.length ≤ 140737488355328 := by rw [HXv.out]; omega
  clear hvn
  go_wp2_with fail
  replace HL := Lib.hid (HL.out.step (stepD1 _)); replace HG := Lib.hid (HG.out.step (stepD1 _)); replace HK := Lib.hid (HK.out.step (stepD1 _))
  replace HCL := Lib.hid (HCL.out.after (stepD1 _))
  have hwa : IntKind.i64.wrap a = a := IntWalk.i64_in _ (by omega)
  refine wp_region_noPanic ?_
  refine wp_region_seq (fun W => W.cell? ⟨w1.heap.size, 0, none⟩ = some (.int .i64 s.1.n) ∧ W.cell? ⟨w1.heap.size, 1, none⟩ = some (.slice B s.1.as.length d)) [0, 1, 2, 3, 4, 5, 6, 7] [0, 1, 2, 3, 4, 7] [] (by kernel_rfl) (by kernel_rfl) rfl (by kernel_rfl) (by kernel_rfl) (fun _ _ _ _ _ h => h) ?_ (fun hSS => ?_)
  · exact ⟨HG.out.c0, HG.out.c1⟩
  clear hSS
  (refine wpSeq_mov rfl rfl ?_; intro o ho; simp only [List.getElem?_toArray, List.getElem?_cons_zero, List.getElem?_cons_succ, Option.some.injEq] at ho; subst ho; refine ⟨?_, Or.inl ⟨by rfl, fun W hSW => ?_⟩, ?_⟩; rotate_left; (focus (go_simp; first | done | with_reducible rfl)); try simp only [Act.put, List.setIfInBounds_toArray, List.set_cons_zero, List.set_cons_succ])
  (refine wpSeq_mov rfl rfl ?_; intro o ho; simp only [List.getElem?_toArray, List.getElem?_cons_zero, List.getElem?_cons_succ, Option.some.injEq] at ho; subst ho; refine ⟨?_, Or.inl ⟨by rfl, fun W hSW => ?_⟩, ?_⟩; rotate_left; (focus (go_simp; first | done | with_reducible rfl)); try simp only [Act.put, List.setIfInBounds_toArray, List.set_cons_zero, List.set_cons_succ])
  (refine wpSeq_mov rfl rfl ?_; intro o ho; simp only [List.getElem?_toArray, List.getElem?_cons_zero, List.getElem?_cons_succ, Option.some.injEq] at ho; subst ho; refine ⟨?_, Or.inl ⟨by rfl, fun W hSW => ?_⟩, ?_⟩; rotate_left; (focus (go_simp; first | done | with_reducible rfl)); try simp only [Act.put, List.setIfInBounds_toArray, List.set_cons_zero, List.set_cons_succ])
  (refine wpSeq_mov rfl rfl ?_; intro o ho; simp only [List.getElem?_toArray, List.getElem?_cons_zero, List.getElem?_cons_succ, Option.some.injEq] at ho; subst ho; refine ⟨?_, Or.inl ⟨by rfl, fun W hSW => ?_⟩, ?_⟩; rotate_left; (focus (go_simp; first | done | with_reducible rfl)); try simp only [Act.put, List.setIfInBounds_toArray, List.set_cons_zero, List.set_cons_succ])
  (refine wpSeq_mov rfl rfl ?_; intro o ho; simp only [List.getElem?_toArray, List.getElem?_cons_zero, List.getElem?_cons_succ, Option.some.injEq] at ho; subst ho; refine ⟨?_, Or.inl ⟨by rfl, fun W hSW => ?_⟩, ?_⟩; rotate_left; (focus (go_simp; first | done | with_reducible rfl)); try simp only [Act.put, List.setIfInBounds_toArray, List.set_cons_zero, List.set_cons_succ])
  (refine wpSeq_fix rfl rfl ?_; intro o ho; simp only [List.getElem?_toArray, List.getElem?_cons_zero, List.getElem?_cons_succ, Option.some.injEq] at ho; subst ho; intro K hK)
  go_simp
  refine (HBT.out _).mono ?_
  rintro e w4 ⟨A4, c4, rfl, hc4, hv, hb⟩
  replace HL := Lib.hid (HL.out.step hb); replace HG := Lib.hid (HG.out.step hb); replace HK := Lib.hid (HK.out.step hb)
  replace HCL := Lib.hid (HCL.out.after hb)
  have HV : Hid (ValsF w4 A4 (bools v)) := ⟨hv⟩
  clear hb hv HBT
  (refine hK.out _ _ (fun _ => ⟨HG.out.c0, HG.out.c1⟩) ?_; clear hK K; try simp only [Act.put, List.setIfInBounds_toArray, List.set_cons_zero, List.set_cons_succ])
  (refine wpSeq_fix rfl rfl ?_; intro o ho; simp only [List.getElem?_toArray, List.getElem?_cons_zero, List.getElem?_cons_succ, Option.some.injEq] at ho; subst ho; intro K hK)
  go_simp
  refine (rall_any s.1 v B A4 d c4 _ HI.out.ok HG.out.cap HG.out.prs hc4 hvl HV.out.p).mono ?_
  rintro e w5 ⟨A5, c5, rfl, hc5, hv, hb⟩
  replace HL := Lib.hid (HL.out.step hb); replace HG := Lib.hid (HG.out.step hb); replace HK := Lib.hid (HK.out.step hb)
  replace HCL := Lib.hid (HCL.out.after hb)
  have HSM1 := Lib.hid (HSM.out v HVN.out)
  have HST1 := Lib.hid (HST.out v HVN.out)
  have HAL1 := Lib.hid (HAL.out v HVN.out)
  generalize allG s.1 v = m at hv hc5 HSM1 HST1 HAL1 ⊢
  have HM5 : Hid (ValsF w5 A5 (bools m)) := ⟨hv⟩
  have hm0 : 0 < m.length := by have := HAL1.out; omega
  have hm1 : m.length ≤ 47 := by have := HAL1.out; omega
  clear hb hv HV HSM HST HAL
  (refine hK.out _ _ (fun _ => ⟨HG.out.c0, HG.out.c1⟩) ?_; clear hK K; try simp only [Act.put, List.setIfInBounds_toArray, List.set_cons_zero, List.set_cons_succ])
  (refine wpSeq_mov rfl rfl ?_; intro o ho; simp only [List.getElem?_toArray, List.getElem?_cons_zero, List.getElem?_cons_succ, Option.some.injEq] at ho; subst ho; refine ⟨?_, Or.inl ⟨by rfl, fun W hSW => ?_⟩, ?_⟩; rotate_left; (focus (go_simp; first | done | with_reducible rfl)); try simp only [Act.put, List.setIfInBounds_toArray, List.set_cons_zero, List.set_cons_succ])
  refine wpSeq_done ?_
  have k0 := HK.out.cell 0
  have k1 := HK.out.cell 1
  go_wp2_with fail
  refine (cso_any V cs m A1 A5 c3 c5 _ (by omega) (fun l hl => by have := HLS.out l hl; omega) (by omega) HCL.out HM5.out.p).mono ?_
  rintro e w6 ⟨rfl, hb⟩
  rw [HSM1.out]
  replace HL := Lib.hid (HL.out.step hb); replace HG := Lib.hid (HG.out.step hb); replace HK := Lib.hid (HK.out.step hb); replace HM5 := Lib.hid (HM5.out.step hb)
  replace HCL := Lib.hid (HCL.out.after hb)
  clear hb k0 k1 HG
  have hmz : ((m.length : Int) == 0) = false := by rw [beq_eq_false_iff_ne]; omega
  obtain ⟨K, hK⟩ : ∃ K : Nat, q % (m.length : Int) = (K : Int) := ⟨(q % (m.length : Int)).toNat, by have := Int.emod_nonneg q (b := (m.length : Int)) (by omega); omega⟩
  have hKm : K < m.length := by have := Int.emod_lt_of_pos q (b := (m.length : Int)) (by omega); omega
  obtain ⟨y, hy⟩ : ∃ y, m[K]? = some y := ⟨_, List.getElem?_eq_getElem hKm⟩
  have HY := Lib.hid hy
  have HKK := Lib.hid hK
  clear hy hK
  obtain ⟨i0, hi0, hz0, hz1, hz2⟩ := info_parts boolInfo
  go_wp2_with (first | (at_builtin; go_loud (refine wpList_append_vals _ rfl (.const (.slice none 0 0)) (.tmp 51) _ rfl w6.heap.size 4 i0 _ 1 1 Try.underlying25 hi0 hz0 hz1 hz2 rfl (by omega) (.slice none 0 0) 0 [] rfl (World.ownsRow_nil _ _ _ _) _ A5 m.length c5 (bools m) rfl (by simp [bools_length]) HM5.out.p (bools_one m) (by unfold maxLen; omega) (by omega) (Nat.le_refl _) ?_); go_loud (intro v7 w7 hown7 hg7); go_loud (obtain ⟨g7, c7, hv7, hgb7, hc7, hf7, hV7⟩ := own_read hown7 (by omega)); go_loud (rw [Nat.zero_add] at hv7 hc7); go_loud (rw [List.nil_append] at hV7); go_loud (rw [hv7]); go_loud (clear hv7); go_loud (have HV7 : Hid (Vals w7 w7.heap.size (some ⟨g7, 0, none⟩) (bools m)) := hV7); go_loud (have HB7 := Lib.hid (grown_nil hg7)); go_loud (have q7 := Vals.cell0 HV7.out (bools_get HY.out)); go_loud (have f7 := hf7 K); go_loud (clear hf7 hV7 hown7 hg7); go_loud (have hKl : (K : Int) < (m.length : Int) := by omega); go_loud (have hKK := HKK.out)))
  have hb8 := Lib.hid (HB7.out.setCell (p := ⟨g7, K, none⟩) hgb7 (.bool !y))
  replace HL := Lib.hid (HL.out.step hb8.out); replace HK := Lib.hid (HK.out.step hb8.out)
  replace HCL := Lib.hid (HCL.out.after hb8.out)
  have HT8 : Hid (Vals (w7.setCell ⟨g7, K, none⟩ (.bool !y)) (w7.setCell ⟨g7, K, none⟩ (.bool !y)).heap.size (some ⟨g7, 0, none⟩) (bools (m.set K (!y)))) := by
    have := Vals.set_ (K := K) (u := .bool !y) HV7.out (by rw [bools_length]; exact hKm)
    rw [show bools (m.set K (!y)) = (bools m).set K (.bool !y) from by simp [bools, List.map_set]]
    exact this.more (by simp)
  simp only [hKK]
  clear q7 f7 hb8 HB7 HV7 HM5 hKK HKK
  obtain ⟨w8, hw8⟩ : ∃ w8, w7.setCell ⟨g7, K, none⟩ (.bool !y) = w8 := ⟨_, rfl⟩
  rw [hw8] at HL HK HCL HT8 ⊢
  clear hw8
  go_loopw [17, 18] (fun bl i wr => ∃ (j : Nat) (z : Bool), j ≤ cs.length ∧ bl = .bool z ∧ i = .int .i64 j ∧ Hid (z = (decide (K = 0) || (cs.take j).any (begins ((K : Int) + 1)))) ∧ Low w8 wr) (fun _ i _ => cs.length - (intOf i).toNat)
  case atStart =>
    refine ⟨0, _, Nat.zero_le _, rfl, rfl, ?_, Low.refl _⟩
    show _ = _
    by_cases hK0 : K = 0 <;> simp [hK0]
  case round =>
    obtain ⟨j, z, hj, rfl, rfl, hz, hlow⟩ := hrel
    have HZ := Lib.hid hz.out
    have HW := Lib.hid hlow
    have HLk := Lib.hid (HL.out.step hlow.b)
    have k0 := (HK.out.step hlow.b).cell 0
    have k1 := (HK.out.step hlow.b).cell 1
    clear hz hlow
    by_cases hlt : j < cs.length
    · have hlt' : (j : Int) < (cs.length : Int) := by omega
      obtain ⟨x, hxj⟩ : ∃ x, cs[j]? = some x := ⟨_, List.getElem?_eq_getElem hlt⟩
      obtain ⟨b', o', D, d', rfl, _, hcx, hd', hvx⟩ := (HCL.out.after HW.out.b) j x hxj
      have HX := Lib.hid hxj
      have HV := Lib.hid hvx
      have hx3 := HLS.out x (List.mem_of_getElem? hxj)
      clear hxj hvx
      by_cases h3 : x.length = 3
      · obtain ⟨x0, x1, x2, rfl⟩ := three_of h3
        obtain ⟨b2, o2, rfl, _, q2⟩ := HV.out 0 (.int .i64 x0) rfl
        rw [Nat.add_zero] at q2
        by_cases hx0 : x0 = (K : Int) + 1
        · subst hx0
          have HN2 : Hid (true = (decide (K = 0) || (cs.take (j + 1)).any (begins ((K : Int) + 1)))) := by
            show true = _
            rw [any_take_succ HX.out, begins_three]
            simp
          clear HZ
          go_wp2_with fail
          go_roundw
          case rel => exact ⟨j + 1, true, by omega, rfl, by go_num, HN2.out, HW.out⟩
          case measure => simp [intOf]; omega
        · have hx0' : (x0 == (K : Int) + 1) = false := by rw [beq_eq_false_iff_ne]; exact hx0
          have HN2 : Hid (z = (decide (K = 0) || (cs.take (j + 1)).any (begins ((K : Int) + 1)))) := by
            show z = _
            rw [any_take_succ HX.out, begins_three, hx0', Bool.or_false]
            exact HZ.out
          clear HZ
          go_wp2_with fail
          go_roundw
          case rel => exact ⟨j + 1, z, by omega, rfl, by go_num, HN2.out, HW.out⟩
          case measure => simp [intOf]; omega
      · have h3' : ((x.length : Int) == 3) = false := by rw [beq_eq_false_iff_ne]; omega
        have HN2 : Hid (z = (decide (K = 0) || (cs.take (j + 1)).any (begins ((K : Int) + 1)))) := by
          show z = _
          rw [any_take_succ HX.out, begins_not h3, Bool.or_false]
          exact HZ.out
        clear HZ h3
        go_wp2_with fail
        go_roundw
        case rel => exact ⟨j + 1, z, by omega, rfl, by go_num, HN2.out, HW.out⟩
        case measure => simp [intOf]; omega
    · obtain rfl : j = cs.length := by omega
      have hlt' : ¬ ((cs.length : Int) < (cs.length : Int)) := by omega
      cases z
      · go_wp2_with fail
        go_ret
        exact ⟨rfl, HLk.out.b⟩
      · have HF : Hid (soC V cs (m.set K (!y)) = false) := by
          refine HST1.out K y HY.out ?_
          have := HZ.out
          rw [List.take_length] at this
          rcases Bool.or_eq_true_iff.1 this.symm with h | h
          · exact .inl (of_decide_eq_true h)
          · exact .inr h
        have HC := Lib.hid (cso_any V cs (m.set K (!y)) A1 (some ⟨g7, 0, none⟩) c3 c7 wr (by omega) (fun l hl => by have := HLS.out l hl; omega) (by rw [List.length_set]; omega) (HCL.out.after HW.out.b) (HT8.out.after HW.out.b))
        rw [HF.out, List.length_set] at HC
        go_wp2_with fail
        refine HC.out.mono ?_
        rintro e w9 ⟨rfl, hb⟩
        go_wp2_with fail
        go_ret
        exact ⟨rfl, (HLk.out.step hb).b⟩
end Go.Proofs.Ytbdhkagcbncefaa
