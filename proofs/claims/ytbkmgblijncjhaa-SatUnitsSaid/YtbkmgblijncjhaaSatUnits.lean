/- Layer 15: SatUnits. -/
import Derived.Test.YtbkmgblijncjhaaSatUn
import Derived.Test.YtbkmgblijncjhaaG6
import Derived.Test.YtbkmgblijncjhaaG9
import Derived.Test.YtbkmgblijncjhaaG1
set_option linter.unusedVariables false
set_option linter.unusedSimpArgs false
namespace Go.Proofs.Ytbkmgblijncjhaa
open Go.RowKit Go.Maps

theorem mem_swap {α : Type} {l : List α} {i j : Nat} {a b : α} (hi : l[i]? = some a) (hj : l[j]? = some b) (x : α) : x ∈ (l.set i b).set j a ↔ x ∈ l := by
  have hil := (List.getElem?_eq_some_iff.1 hi).1
  have hjl := (List.getElem?_eq_some_iff.1 hj).1
  constructor
  · intro h
    rcases List.mem_or_eq_of_mem_set h with h | rfl
    · rcases List.mem_or_eq_of_mem_set h with h | rfl
      · exact h
      · exact List.mem_of_getElem? hj
    · exact List.mem_of_getElem? hi
  · intro h
    obtain ⟨k, hk⟩ := List.getElem?_of_mem h
    have hkl := (List.getElem?_eq_some_iff.1 hk).1
    rw [List.mem_iff_getElem?]
    by_cases e1 : k = i
    · subst e1
      rw [hk] at hi
      cases hi
      exact ⟨j, by rw [List.getElem?_set_self (by simpa using hjl)]⟩
    · by_cases e2 : k = j
      · subst e2
        rw [hk] at hj
        cases hj
        refine ⟨i, ?_⟩
        rw [List.getElem?_set_ne (fun h => e1 h), List.getElem?_set_self hil]
      · exact ⟨k, by rw [List.getElem?_set_ne (fun h => e2 h.symm), List.getElem?_set_ne (fun h => e1 h.symm)]; exact hk⟩
theorem KB.swap {w : World} {base : Nat} {A : Option Addr} {c : Nat} {zs : Ks} (h : KB w base A c zs) {i j : Nat} {a b : Nat × Nat × List Int} (hi : zs[i]? = some a) (hj : zs[j]? = some b) {g : Nat} (hA : A = some ⟨g, 0, none⟩) :
    KB ((w.setCell ⟨g, i, none⟩ (slotK b)).setCell ⟨g, j, none⟩ (slotK a)) base A c ((zs.set i b).set j a) := by
  have hil := (List.getElem?_eq_some_iff.1 hi).1
  have hjl := (List.getElem?_eq_some_iff.1 hj).1
  obtain ⟨g1, e1, _, _, _, hp1⟩ := own_put h.own hil
  rw [hA] at e1
  cases e1
  obtain ⟨g2, e2, _, _, _, hp2⟩ := own_put (hp1 (slotK b)) hjl
  rw [hA] at e2
  cases e2
  have ho := hp2 (slotK a)
  have hty : ∃ cur, Blk w g 25 cur := by
    rcases h.own.2 with ⟨hv, h0⟩ | ⟨g', cap, cur, hv, hgb, hh, _⟩
    · rw [h0] at hil
      omega
    · rw [hA] at hv
      injection hv with e _ _
      injection e with e
      injection e with e
      subst e
      exact ⟨cur, hh⟩
  obtain ⟨cur, hty⟩ := hty
  refine ⟨?_, fun z hz => ?_⟩
  · rw [List.map_set, List.map_set, List.length_set, List.length_set]
    exact ho
  · have hz' := h.inner z ((mem_swap hi hj z).1 hz)
    have hne : z.1 ≠ g := hz'.2.ne hty (by decide)
    exact ⟨hz'.1, (hz'.2.far (p := ⟨g, i, none⟩) hne _).far (p := ⟨g, j, none⟩) hne _⟩

set_option maxRecDepth 100000 in
set_option maxHeartbeats 8000000 in
theorem satUnits_any (n : Int) (turned last : Bool) (w : World) (hn : 0 ≤ n ∧ n ≤ 255) :
    Calls Try.prog 8 #[.int .u8 n, .bool turned, .bool last] w (Ret w (.bool true)) := by
  have hnot := @not_run Try.prog
  obtain ⟨n0, n1⟩ := hn
  have ht : n.tmod 200 = n % 200 := Int.tmod_eq_emod_of_nonneg n0
  obtain ⟨N, hN⟩ : ∃ N : Nat, 1 + n % 200 = (N : Int) := ⟨(1 + n % 200).toNat, by omega⟩
  have hN1 : 1 ≤ N := by omega
  have hN2 : N ≤ 200 := by omega
  go_enter Try.func8, Try.ntmps8
  go_wp2_with fail
  refine (awake15_any _).mono ?_
  rintro e w1 ⟨rfl, hb⟩
  have HL1 := Lib.hid ((Low.refl w).step hb)
  clear hb
  go_wp2_with fail
  clear ht hN
  have hS0 : XSt w1 (((w1.alloc (.cells #[.int .i64 1] 3)).alloc (.cells #[.slice (some ⟨w1.heap.size, 0, none⟩) 1 1] 25)).alloc (.cells #[.int .i64 (N : Int), .slice (some ⟨w1.heap.size + 1, 0, none⟩) 1 1] 24)) (w1.heap.size + 1 + 1) (N : Int) (unitsK 1) (some ⟨w1.heap.size + 1, 0, none⟩) 1 [(w1.heap.size, 1, [1])] := by
    have h1 := ((Blk.new w1 3 #[.int .i64 1]).alloc (.cells #[.slice (some ⟨w1.heap.size, 0, none⟩) 1 1] 25)).alloc (.cells #[.int .i64 (N : Int), .slice (some ⟨w1.heap.size + 1, 0, none⟩) 1 1] 24)
    have h2 := (Blk.new (w1.alloc (.cells #[.int .i64 1] 3)) 25 #[.slice (some ⟨w1.heap.size, 0, none⟩) 1 1]).alloc (.cells #[.int .i64 (N : Int), .slice (some ⟨w1.heap.size + 1, 0, none⟩) 1 1] 24)
    have h3 := BlkF.new ((w1.alloc (.cells #[.int .i64 1] 3)).alloc (.cells #[.slice (some ⟨w1.heap.size, 0, none⟩) 1 1] 25)) 24 #[.int .i64 (N : Int), .slice (some ⟨w1.heap.size + 1, 0, none⟩) 1 1]
    simp only [World.size_alloc] at h2 h3
    refine ⟨(((Low.refl w1).step (stepA w1 _)).step (stepA _ _)).step (stepA _ _), by omega, h3, ⟨⟨rfl, .inr ⟨w1.heap.size + 1, 1, _, rfl, by omega, h2, Nat.le_refl _, by unfold maxLen; omega, rfl, rfl⟩⟩, fun z hz => ?_⟩, rfl⟩
    obtain rfl := List.mem_singleton.1 hz
    exact ⟨Nat.le_refl _, HasI.of_blk h1⟩
  go_loopw [9] (fun i wr => ∃ (k : Nat) (B : Option Addr) (d : Nat) (zs : Ks), 1 ≤ k ∧ k ≤ N ∧ i = .int .i64 k ∧ XSt w1 wr (w1.heap.size + 1 + 1) (N : Int) (unitsK k) B d zs) (fun i _ => N - (intOf i).toNat)
  case atStart => exact ⟨1, _, 1, _, Nat.le_refl _, hN1, rfl, hS0⟩
  case round =>
    obtain ⟨k, B, d, zs, hk1, hk, rfl, hst⟩ := hrel
    have HS := Lib.hid hst
    have hs := HS.out.low.size
    have hzl : zs.length ≤ 200 := by
      rw [HS.out.len, unitsK_len]
      omega
    have c0 := HS.out.box.cell 0
    have c1 := HS.out.box.cell 1
    have f1 := HS.out.box.p.frozen 1
    clear hst hS0
    by_cases hkn : k < N
    · have hkn' : (k : Int) < (N : Int) := by omega
      have HUC : Hid (unitC k = [(k : Int) + 1, -(k : Int)]) := Lib.hid (by unfold unitC; rw [if_neg (by omega)])
      obtain ⟨q0, hq0, hy0, hy1, hy2⟩ := info_parts rowInfoK
      have hB1 := (Blk.new wr 3 #[.int .i64 ((k : Int) + 1), .int .i64 (-(k : Int))]).alloc (.cells #[slotK (wr.heap.size, 2, [(k : Int) + 1, -(k : Int)])] 25)
      have hvn := vals_new (wr.alloc (.cells #[.int .i64 ((k : Int) + 1), .int .i64 (-(k : Int))] 3)) [slotK (wr.heap.size, 2, [(k : Int) + 1, -(k : Int)])] 25
      have HX2 := Lib.hid ((HS.out.step (stepA wr (.cells #[.int .i64 ((k : Int) + 1), .int .i64 (-(k : Int))] 3))).step (stepA _ (.cells #[slotK (wr.heap.size, 2, [(k : Int) + 1, -(k : Int)])] 25)))
      simp only [World.size_alloc] at hvn
      have HB1 := Lib.hid hB1
      have HVN : Hid (Vals _ _ (some ⟨wr.heap.size + 1, 0, none⟩) [slotK (wr.heap.size, 2, [(k : Int) + 1, -(k : Int)])]) := Lib.hid hvn
      clear hB1 hvn
      go_wp2_with (first | (at_builtin; refine wpList_append_vals _ rfl (.tmp 33) (.tmp 39) _ rfl w1.heap.size 25 q0 _ 1 24 Try.underlying22 hq0 hy0 hy1 hy2 rfl (by omega) (.slice B zs.length d) zs.length (zs.map slotK) rfl HX2.out.kb.own _ _ 1 1 [slotK (wr.heap.size, 2, [(k : Int) + 1, -(k : Int)])] rfl rfl HVN.out (slotK_one [(wr.heap.size, 2, [(k : Int) + 1, -(k : Int)])]) (by unfold maxLen; omega) (by omega) (by simp; omega) ?_; intro v5 w5 hown5 hg5; obtain ⟨A6, c6, rfl, hcap6⟩ := own_form hown5; have HG5 := Lib.hid hg5; have HO5 := Lib.hid hown5; have HB5 := Lib.hid (HX2.out.box.p.by_ hg5 (own_ne HX2.out.kb.own HX2.out.box.p (by decide))); clear hown5 hg5 c0 c1 f1; have c1 := HB5.out.cell 1; have f1 := HB5.out.frozen 1))
      go_roundw
      case rel =>
        refine ⟨k + 1, A6, c6, zs ++ [(wr.heap.size, 2, [(k : Int) + 1, -(k : Int)])], by omega, by omega, by go_num, ?_⟩
        have hput := HX2.out.put (c' := c6) (A' := A6) (ys := [(wr.heap.size, 2, [(k : Int) + 1, -(k : Int)])]) HG5.out (by simpa using HO5.out) (fun y hy => by
          obtain rfl := List.mem_singleton.1 hy
          exact ⟨Nat.le_refl _, HasI.of_blk HB1.out⟩)
        rw [unitsK_succ, HUC.out]
        simpa using hput
      case measure => simp [intOf]; omega
    · have hkn' : ¬ (k : Int) < (N : Int) := by omega
      have hke : k = N := by omega
      rw [hke] at HS
      have HKE := Lib.hid hke
      clear hke
      have HMEM : Hid (∀ c, c ∈ unitsK N ↔ ∃ i, i < N ∧ c = unitC i) := Lib.hid fun c => unitsK_mem
      have hzn : zs.length = N := by rw [HS.out.len, unitsK_len]
      have HZN := Lib.hid hzn
      clear hzn
      cases turned
      · have HU := Lib.hid HS.out
        generalize unitsK N = cs at HU HMEM
        clear HS
        have hzn : zs.length = N := HZN.out
        clear c0 c1 f1
        have HCL := Lib.hid HU.out.cls
        have HCC := Lib.hid (⟨HU.out.kb.cap, HU.out.len⟩ : zs.length ≤ d ∧ zs.length = cs.length)
        have HK := Lib.hid HU.out.box
        have HL2 := Lib.hid (HL1.out.step HU.out.low.b)
        have c0 := HK.out.cell 0
        have c1 := HK.out.cell 1
        have hpl := HK.out.p.lt
        clear HU
        cases last
        · have HST := Lib.hid (solve_units N hN2 cs HMEM.out (by have := HCC.out.2; omega) B d [] none 0 wr (fun x hx => by cases hx) (by simp) HCL.out Vals.nil (by have := HCC.out; omega) (Nat.le_refl _))
          rw [← HCC.out.2] at HST
          have HZN2 := Lib.hid hzn
          clear hzn
          go_wp2_with fail
          refine HST.out.mono ?_
          rintro e w2 ⟨hb, ⟨rfl, hno⟩ | ⟨g9, L, rfl, hg9, hbl, hL, hsat, _⟩⟩
          · exact (hno _ (units_true N HMEM.out) (fun a ha => by cases ha)).elim
          have HAL : Hid (∀ i, i < N → L.getD i false = true) := Lib.hid fun i hi => by
            have := units_all N HMEM.out hsat i hi
            unfold mL at this
            rwa [Nat.add_sub_cancel] at this
          have HBL : Hid (BlkF w2 g9 4 (bools L).toArray) := ⟨hbl⟩
          have HLL := Lib.hid hL
          replace HL2 := Lib.hid (HL2.out.step hb); replace HK := Lib.hid (HK.out.step hb)
          clear hb hbl hL hsat HST c0 c1 HCL
          go_wp2_with fail
          go_loopw [7, 15] (fun ok i wr => ∃ j : Nat, j ≤ N ∧ ok = .bool true ∧ i = .int .i64 j ∧ Low w2 wr) (fun _ i _ => N - (intOf i).toNat)
          case atStart => exact ⟨0, Nat.zero_le _, rfl, rfl, Low.refl _⟩
          case round =>
            obtain ⟨j9, hj9, rfl, rfl, hlow⟩ := hrel
            have HLW := Lib.hid hlow
            clear hlow
            by_cases hj9n : j9 < N
            · have hj9n' : (j9 : Int) < (N : Int) := by omega
              have hgt : L[j9]? = some true := by
                have h1 := HAL.out j9 hj9n
                rw [List.getD_eq_getElem?_getD] at h1
                have h2 : j9 < L.length := by rw [HLL.out]; exact hj9n
                rw [List.getElem?_eq_getElem h2] at h1 ⊢
                exact congrArg some h1
              have q1 : wr.cell? ⟨g9, j9, none⟩ = some (.bool true) := by
                rw [(HBL.out.step HLW.out.b).cell j9, List.getElem?_toArray]
                exact bools_get hgt
              clear hgt
              go_wp2_with fail
              go_roundw
              case rel => exact ⟨j9 + 1, by omega, rfl, by go_num, HLW.out⟩
              case measure => simp [intOf]; omega
            · have hj9n' : ¬ (j9 : Int) < (N : Int) := by omega
              have k0 := (HK.out.step HLW.out.b).cell 0
              have k1 := (HK.out.step HLW.out.b).cell 1
              go_wp2_with fail
              go_ret
              exact ⟨rfl, (HL2.out.step HLW.out.b).b⟩
        · have HBN := Lib.hid (stepA wr (.cells #[.int .i64 (-(N : Int))] 3))
          have HVN := Lib.hid (vals_of_blk (Blk.new wr 3 (i64s [-(N : Int)]).toArray))
          have HST := Lib.hid (solve_units N hN2 cs HMEM.out (by have := HCC.out.2; omega) B d [-(N : Int)] (some ⟨wr.heap.size, 0, none⟩) 1 (wr.alloc (.cells #[.int .i64 (-(N : Int))] 3)) (fun x hx => by
            obtain rfl := List.mem_singleton.1 hx
            omega) (by simp) (HCL.out.after HBN.out) HVN.out (by have := HCC.out; omega) (Nat.le_refl _))
          rw [← HCC.out.2] at HST
          have HZN2 := Lib.hid hzn
          clear hzn
          go_wp2_with fail
          replace HL2 := Lib.hid (HL2.out.step (stepA wr (.cells #[.int .i64 (-(N : Int))] 3))); replace HK := Lib.hid (HK.out.step (stepA wr (.cells #[.int .i64 (-(N : Int))] 3)))
          refine HST.out.mono ?_
          rintro e w2 ⟨hb, ⟨rfl, _⟩ | ⟨g9, L, rfl, _, _, hL, hsat, hall⟩⟩
          rotate_left
          · have h1 := units_all N HMEM.out hsat (N - 1) (by omega)
            have h2 := hall (-(N : Int)) (List.mem_singleton.2 rfl)
            rw [show N - 1 + 1 = N by omega] at h1
            unfold litOn at h2
            rw [if_pos (by omega), show (-(N : Int)).natAbs = N by omega, h1] at h2
            cases h2
          replace HL2 := Lib.hid (HL2.out.step hb); replace HK := Lib.hid (HK.out.step hb)
          clear hb HST c0 c1 HCL HBN HVN
          go_wp2_with fail
          go_loopw [7, 15] (fun ok i wr => ok = .bool true ∧ i = .int .i64 0 ∧ wr = w2) (fun _ _ _ => 0)
          case atStart => exact ⟨rfl, rfl, rfl⟩
          case round =>
            obtain ⟨rfl, rfl, hw⟩ := hrel
            have hw' := hw.symm
            subst hw'
            clear hw
            have k0 := HK.out.cell 0
            have k1 := HK.out.cell 1
            go_wp2_with fail
            go_ret
            exact ⟨rfl, HL2.out.b⟩
      · go_wp2_with fail
        clear c0 c1 f1
        go_loopw [10] (fun i wr => ∃ (j : Nat) (zs' : Ks) (cs : List (List Int)), j ≤ N ∧ i = .int .i64 j ∧ XSt w1 wr (w1.heap.size + 1 + 1) (N : Int) cs B d zs' ∧ zs'.length = N ∧ ∀ c, c ∈ cs ↔ ∃ i, i < N ∧ c = unitC i) (fun i _ => N - (intOf i).toNat)
        case atStart => exact ⟨0, zs, _, Nat.zero_le _, rfl, HS.out, HZN.out, HMEM.out⟩
        case round =>
          obtain ⟨j, zs', cs, hj, rfl, hst, hzn', hmem'⟩ := hrel
          have HU := Lib.hid hst
          have HZ' := Lib.hid hzn'
          replace HMEM := Lib.hid hmem'
          have c0 := HU.out.box.cell 0
          have c1 := HU.out.box.cell 1
          have f1 := HU.out.box.p.frozen 1
          rw [HZ'.out] at c1
          have htd : (N : Int).tdiv 2 = (N : Int) / 2 := Int.tdiv_eq_ediv_of_nonneg (by omega)
          clear HS hst hzn' hmem'
          by_cases hjn : j < N / 2
          · have hjn' : (j : Int) < (N : Int) / 2 := by omega
            obtain ⟨a, ha⟩ : ∃ a, zs'[j]? = some a := ⟨_, List.getElem?_eq_getElem (by rw [HZ'.out]; omega)⟩
            obtain ⟨q, hq⟩ : ∃ q : Nat, q = N - 1 - j := ⟨_, rfl⟩
            have hqi : (N : Int) - 1 - (j : Int) = (q : Int) := by omega
            have hqn : q < N := by omega
            obtain ⟨a2, ha2⟩ : ∃ a2, zs'[q]? = some a2 := ⟨_, List.getElem?_eq_getElem (by rw [HZ'.out]; omega)⟩
            have HQ := Lib.hid hq
            obtain ⟨ba, ra, la⟩ := a
            obtain ⟨bb, rb, lb⟩ := a2
            have HA := Lib.hid ha
            have HA2 := Lib.hid ha2
            obtain ⟨g, eB, hgb, hfz, ⟨u1, hu1, hcu1⟩, _⟩ := own_put HU.out.kb.own (show j < zs'.length by rw [HZ'.out]; omega)
            subst eB
            obtain ⟨g', eB, _, _, ⟨u2, hu2, hcu2⟩, _⟩ := own_put HU.out.kb.own (show q < zs'.length by rw [HZ'.out]; omega)
            cases eB
            rw [List.getElem?_map, ha] at hu1
            rw [List.getElem?_map, ha2] at hu2
            cases hu1
            cases hu2
            have HCU := Lib.hid (And.intro hcu1 hcu2)
            have HFZ := Lib.hid hfz
            have hw1' : IntKind.i64.wrap ((N : Int) - 1) = (N : Int) - 1 := IntWalk.i64_in _ (by omega)
            have hw2' : IntKind.i64.wrap (q : Int) = (q : Int) := IntWalk.i64_in _ (by omega)
            have hjN : (j : Int) < (N : Int) := by omega
            have hqN : (q : Int) < (N : Int) := by omega
            clear ha ha2 hq hcu1 hcu2 hfz c0 f1
            go_wp2_with fail
            refine wp_region_noPanic ?_
            refine wp_region_seqG (fun W => W.cell? ⟨g, j, none⟩ = some (.slice (some ⟨ba, 0, none⟩) la.length ra) ∧ W.cell? ⟨g, q, none⟩ = some (.slice (some ⟨bb, 0, none⟩) lb.length rb)) (fun W => W.cell? ⟨w1.heap.size + 1 + 1, 1, none⟩ = some (.slice (some ⟨g, 0, none⟩) N d)) [0,1,2,3,4,5,6,7,8,9,10,11,12,13,14,15,16,17,18,19,20,21,22,23,24,25,26,27,28,29] [20,25] [0,1,2,3,4,5,6,7,8,9,10,11,12,13,14,15,16,17,18,19,21,22,23,24,26,28] [27,29] [] (by kernel_rfl) (by kernel_rfl) rfl (by kernel_rfl) (by kernel_rfl) (by kernel_rfl) (fun _ _ _ _ _ h => h) ?_ (fun hSS hRR => ?_)
            · exact ⟨⟨HCU.out.1, HCU.out.2⟩, c1⟩
            have HU2 := Lib.hid (HU.out.step (stepD1 wr))
            clear hSS hRR c1
            have z1 : wr.drew.frozen? ⟨g, j, none⟩ = false := HFZ.out j
            have z2 : wr.drew.frozen? ⟨g, q, none⟩ = false := HFZ.out q
            have k1 : wr.drew.cell? ⟨g, j, none⟩ = some (.slice (some ⟨ba, 0, none⟩) la.length ra) := HCU.out.1
            have k2 : wr.drew.cell? ⟨g, q, none⟩ = some (.slice (some ⟨bb, 0, none⟩) lb.length rb) := HCU.out.2
            clear HCU HFZ HU
            generalize wr.drew = w3 at HU2 z1 z2 k1 k2 ⊢
            have hgp : (w1.heap.size + 1 + 1) ≠ g := fun e => by
              have hb := HU2.out.box.p
              rw [e] at hb
              exact own_ne HU2.out.kb.own hb (by decide) g rfl rfl
            have R1 : Hid (∀ (x y : Value), ((w3.setCell ⟨g, j, none⟩ x).setCell ⟨g, q, none⟩ y).cell? ⟨w1.heap.size + 1 + 1, 1, none⟩ = some (.slice (some ⟨g, 0, none⟩) N d)) := Lib.hid fun x y => by
              have := ((HU2.out.box.p.far (p := ⟨g, j, none⟩) hgp x).far (p := ⟨g, q, none⟩) hgp y).cell 1
              rw [HZ'.out] at this
              exact this
            have R2 : Hid (∀ (x : Value), (w3.setCell ⟨g, j, none⟩ x).cell? ⟨w1.heap.size + 1 + 1, 1, none⟩ = some (.slice (some ⟨g, 0, none⟩) N d)) := Lib.hid fun x => by
              have := (HU2.out.box.p.far (p := ⟨g, j, none⟩) hgp x).cell 1
              rw [HZ'.out] at this
              exact this
            have hjq : j ≠ q := by have := HQ.out; omega
            have k3 : Hid (∀ x, (w3.setCell ⟨g, j, none⟩ x).cell? ⟨g, q, none⟩ = some (.slice (some ⟨bb, 0, none⟩) lb.length rb)) := Lib.hid fun x => by
              rw [World.cell?_setCell_other _ _ _ _ (by intro e; simp only [Addr.mk.injEq] at e; omega)]
              exact k2
            have z3 : Hid (∀ x, (w3.setCell ⟨g, j, none⟩ x).frozen? ⟨g, q, none⟩ = false) := Lib.hid fun x => by
              obtain ⟨_, e, _, hz, _, _⟩ := own_put ((own_put HU2.out.kb.own (show j < zs'.length by rw [HZ'.out]; omega)).choose_spec.2.2.2.2 x) (show q < zs'.length by rw [HZ'.out]; omega)
              cases e
              have e2 := (own_put HU2.out.kb.own (show j < zs'.length by rw [HZ'.out]; omega)).choose_spec.1
              injection e2 with e2
              injection e2 with e2
              rw [← e2] at hz
              exact hz q
            (refine wpSeqG_movR rfl rfl rfl ?_; intro o ho; simp only [List.getElem?_toArray, List.getElem?_cons_zero, List.getElem?_cons_succ, Option.some.injEq] at ho; subst ho; refine ⟨?_, Or.inl ⟨by rfl, fun W hSW => ?_⟩, ?_⟩; rotate_left; (focus (go_simp; first | done | with_reducible rfl)); try simp only [Act.put, List.setIfInBounds_toArray, List.set_cons_zero, List.set_cons_succ])
            (refine wpSeqG_movR rfl rfl rfl ?_; intro o ho; simp only [List.getElem?_toArray, List.getElem?_cons_zero, List.getElem?_cons_succ, Option.some.injEq] at ho; subst ho; refine ⟨?_, Or.inl ⟨by rfl, fun W hSW => ?_⟩, ?_⟩; rotate_left; (focus (go_simp; first | done | with_reducible rfl)); try simp only [Act.put, List.setIfInBounds_toArray, List.set_cons_zero, List.set_cons_succ])
            (refine wpSeqG_movR rfl rfl rfl ?_; intro o ho; simp only [List.getElem?_toArray, List.getElem?_cons_zero, List.getElem?_cons_succ, Option.some.injEq] at ho; subst ho; refine ⟨?_, Or.inl ⟨by rfl, fun W hSW => ?_⟩, ?_⟩; rotate_left; (focus (go_simp; first | done | with_reducible rfl)); try simp only [Act.put, List.setIfInBounds_toArray, List.set_cons_zero, List.set_cons_succ])
            (refine wpSeqG_movR rfl rfl rfl ?_; intro o ho; simp only [List.getElem?_toArray, List.getElem?_cons_zero, List.getElem?_cons_succ, Option.some.injEq] at ho; subst ho; refine ⟨?_, Or.inl ⟨by rfl, fun W hSW => ?_⟩, ?_⟩; rotate_left; (focus (go_simp; first | done | with_reducible rfl)); try simp only [Act.put, List.setIfInBounds_toArray, List.set_cons_zero, List.set_cons_succ])
            (refine wpSeqG_movR rfl rfl rfl ?_; intro o ho; simp only [List.getElem?_toArray, List.getElem?_cons_zero, List.getElem?_cons_succ, Option.some.injEq] at ho; subst ho; refine ⟨?_, Or.inl ⟨by rfl, fun W hSW => ?_⟩, ?_⟩; rotate_left; (focus (go_simp; first | done | with_reducible rfl)); try simp only [Act.put, List.setIfInBounds_toArray, List.set_cons_zero, List.set_cons_succ])
            (refine wpSeqG_movR rfl rfl rfl ?_; intro o ho; simp only [List.getElem?_toArray, List.getElem?_cons_zero, List.getElem?_cons_succ, Option.some.injEq] at ho; subst ho; refine ⟨?_, Or.inl ⟨by rfl, fun W hSW => ?_⟩, ?_⟩; rotate_left; (focus (go_simp; first | done | with_reducible rfl)); try simp only [Act.put, List.setIfInBounds_toArray, List.set_cons_zero, List.set_cons_succ])
            (refine wpSeqG_movR rfl rfl rfl ?_; intro o ho; simp only [List.getElem?_toArray, List.getElem?_cons_zero, List.getElem?_cons_succ, Option.some.injEq] at ho; subst ho; refine ⟨?_, Or.inl ⟨by rfl, fun W hSW => ?_⟩, ?_⟩; rotate_left; (focus (go_simp; first | done | with_reducible rfl)); try simp only [Act.put, List.setIfInBounds_toArray, List.set_cons_zero, List.set_cons_succ])
            (refine wpSeqG_movR rfl rfl rfl ?_; intro o ho; simp only [List.getElem?_toArray, List.getElem?_cons_zero, List.getElem?_cons_succ, Option.some.injEq] at ho; subst ho; refine ⟨?_, Or.inl ⟨by rfl, fun W hSW => ?_⟩, ?_⟩; rotate_left; (focus (go_simp; first | done | with_reducible rfl)); try simp only [Act.put, List.setIfInBounds_toArray, List.set_cons_zero, List.set_cons_succ])
            (refine wpSeqG_movR rfl rfl rfl ?_; intro o ho; simp only [List.getElem?_toArray, List.getElem?_cons_zero, List.getElem?_cons_succ, Option.some.injEq] at ho; subst ho; refine ⟨?_, Or.inl ⟨by rfl, fun W hSW => ?_⟩, ?_⟩; rotate_left; (focus (go_simp; first | done | with_reducible rfl)); try simp only [Act.put, List.setIfInBounds_toArray, List.set_cons_zero, List.set_cons_succ])
            (refine wpSeqG_movR rfl rfl rfl ?_; intro o ho; simp only [List.getElem?_toArray, List.getElem?_cons_zero, List.getElem?_cons_succ, Option.some.injEq] at ho; subst ho; refine ⟨?_, Or.inl ⟨by rfl, fun W hSW => ?_⟩, ?_⟩; rotate_left; (focus (go_simp; first | done | with_reducible rfl)); try simp only [Act.put, List.setIfInBounds_toArray, List.set_cons_zero, List.set_cons_succ])
            (refine wpSeqG_movR rfl rfl rfl ?_; intro o ho; simp only [List.getElem?_toArray, List.getElem?_cons_zero, List.getElem?_cons_succ, Option.some.injEq] at ho; subst ho; refine ⟨?_, Or.inl ⟨by rfl, fun W hSW => ?_⟩, ?_⟩; rotate_left; (focus (go_simp; first | done | with_reducible rfl)); try simp only [Act.put, List.setIfInBounds_toArray, List.set_cons_zero, List.set_cons_succ])
            (refine wpSeqG_movR rfl rfl rfl ?_; intro o ho; simp only [List.getElem?_toArray, List.getElem?_cons_zero, List.getElem?_cons_succ, Option.some.injEq] at ho; subst ho; refine ⟨?_, Or.inl ⟨by rfl, fun W hSW => ?_⟩, ?_⟩; rotate_left; (focus (go_simp; first | done | with_reducible rfl)); try simp only [Act.put, List.setIfInBounds_toArray, List.set_cons_zero, List.set_cons_succ])
            (refine wpSeqG_movR rfl rfl rfl ?_; intro o ho; simp only [List.getElem?_toArray, List.getElem?_cons_zero, List.getElem?_cons_succ, Option.some.injEq] at ho; subst ho; refine ⟨?_, Or.inl ⟨by rfl, fun W hSW => ?_⟩, ?_⟩; rotate_left; (focus (go_simp; first | done | with_reducible rfl)); try simp only [Act.put, List.setIfInBounds_toArray, List.set_cons_zero, List.set_cons_succ])
            (refine wpSeqG_movR rfl rfl rfl ?_; intro o ho; simp only [List.getElem?_toArray, List.getElem?_cons_zero, List.getElem?_cons_succ, Option.some.injEq] at ho; subst ho; refine ⟨?_, Or.inl ⟨by rfl, fun W hSW => ?_⟩, ?_⟩; rotate_left; (focus (go_simp; first | done | with_reducible rfl)); try simp only [Act.put, List.setIfInBounds_toArray, List.set_cons_zero, List.set_cons_succ])
            (refine wpSeqG_movR rfl rfl rfl ?_; intro o ho; simp only [List.getElem?_toArray, List.getElem?_cons_zero, List.getElem?_cons_succ, Option.some.injEq] at ho; subst ho; refine ⟨?_, Or.inl ⟨by rfl, fun W hSW => ?_⟩, ?_⟩; rotate_left; (focus (go_simp; first | done | with_reducible rfl)); try simp only [Act.put, List.setIfInBounds_toArray, List.set_cons_zero, List.set_cons_succ])
            (refine wpSeqG_movR rfl rfl rfl ?_; intro o ho; simp only [List.getElem?_toArray, List.getElem?_cons_zero, List.getElem?_cons_succ, Option.some.injEq] at ho; subst ho; refine ⟨?_, Or.inl ⟨by rfl, fun W hSW => ?_⟩, ?_⟩; rotate_left; (focus (go_simp; first | done | with_reducible rfl)); try simp only [Act.put, List.setIfInBounds_toArray, List.set_cons_zero, List.set_cons_succ])
            (refine wpSeqG_movR rfl rfl rfl ?_; intro o ho; simp only [List.getElem?_toArray, List.getElem?_cons_zero, List.getElem?_cons_succ, Option.some.injEq] at ho; subst ho; refine ⟨?_, Or.inl ⟨by rfl, fun W hSW => ?_⟩, ?_⟩; rotate_left; (focus (go_simp; first | done | with_reducible rfl)); try simp only [Act.put, List.setIfInBounds_toArray, List.set_cons_zero, List.set_cons_succ])
            (refine wpSeqG_movR rfl rfl rfl ?_; intro o ho; simp only [List.getElem?_toArray, List.getElem?_cons_zero, List.getElem?_cons_succ, Option.some.injEq] at ho; subst ho; refine ⟨?_, Or.inl ⟨by rfl, fun W hSW => ?_⟩, ?_⟩; rotate_left; (focus (go_simp; first | done | with_reducible rfl)); try simp only [Act.put, List.setIfInBounds_toArray, List.set_cons_zero, List.set_cons_succ])
            (refine wpSeqG_movR rfl rfl rfl ?_; intro o ho; simp only [List.getElem?_toArray, List.getElem?_cons_zero, List.getElem?_cons_succ, Option.some.injEq] at ho; subst ho; refine ⟨?_, Or.inl ⟨by rfl, fun W hSW => ?_⟩, ?_⟩; rotate_left; (focus (go_simp; first | done | with_reducible rfl)); try simp only [Act.put, List.setIfInBounds_toArray, List.set_cons_zero, List.set_cons_succ])
            (refine wpSeqG_movR rfl rfl rfl ?_; intro o ho; simp only [List.getElem?_toArray, List.getElem?_cons_zero, List.getElem?_cons_succ, Option.some.injEq] at ho; subst ho; refine ⟨?_, Or.inl ⟨by rfl, fun W hSW => ?_⟩, ?_⟩; rotate_left; (focus (go_simp; first | done | with_reducible rfl)); try simp only [Act.put, List.setIfInBounds_toArray, List.set_cons_zero, List.set_cons_succ])
            (refine wpSeqG_mov rfl rfl ?_; intro o ho; simp only [List.getElem?_toArray, List.getElem?_cons_zero, List.getElem?_cons_succ, Option.some.injEq] at ho; subst ho; refine ⟨?_, Or.inl ⟨by rfl, fun W hSW => ?_⟩, ?_⟩; rotate_left; (focus (go_simp; first | done | with_reducible rfl)); try simp only [Act.put, List.setIfInBounds_toArray, List.set_cons_zero, List.set_cons_succ])
            (refine wpSeqG_movR rfl rfl rfl ?_; intro o ho; simp only [List.getElem?_toArray, List.getElem?_cons_zero, List.getElem?_cons_succ, Option.some.injEq] at ho; subst ho; refine ⟨?_, Or.inl ⟨by rfl, fun W hSW => ?_⟩, ?_⟩; rotate_left; (focus (go_simp; first | done | with_reducible rfl)); try simp only [Act.put, List.setIfInBounds_toArray, List.set_cons_zero, List.set_cons_succ])
            (refine wpSeqG_movR rfl rfl rfl ?_; intro o ho; simp only [List.getElem?_toArray, List.getElem?_cons_zero, List.getElem?_cons_succ, Option.some.injEq] at ho; subst ho; refine ⟨?_, Or.inl ⟨by rfl, fun W hSW => ?_⟩, ?_⟩; rotate_left; (focus (go_simp; first | done | with_reducible rfl)); try simp only [Act.put, List.setIfInBounds_toArray, List.set_cons_zero, List.set_cons_succ])
            (refine wpSeqG_movR rfl rfl rfl ?_; intro o ho; simp only [List.getElem?_toArray, List.getElem?_cons_zero, List.getElem?_cons_succ, Option.some.injEq] at ho; subst ho; refine ⟨?_, Or.inl ⟨by rfl, fun W hSW => ?_⟩, ?_⟩; rotate_left; (focus (go_simp; first | done | with_reducible rfl)); try simp only [Act.put, List.setIfInBounds_toArray, List.set_cons_zero, List.set_cons_succ])
            (refine wpSeqG_movR rfl rfl rfl ?_; intro o ho; simp only [List.getElem?_toArray, List.getElem?_cons_zero, List.getElem?_cons_succ, Option.some.injEq] at ho; subst ho; refine ⟨?_, Or.inl ⟨by rfl, fun W hSW => ?_⟩, ?_⟩; rotate_left; (focus (go_simp; first | done | with_reducible rfl)); try simp only [Act.put, List.setIfInBounds_toArray, List.set_cons_zero, List.set_cons_succ])
            (refine wpSeqG_mov rfl rfl ?_; intro o ho; simp only [List.getElem?_toArray, List.getElem?_cons_zero, List.getElem?_cons_succ, Option.some.injEq] at ho; subst ho; refine ⟨?_, Or.inl ⟨by rfl, fun W hSW => ?_⟩, ?_⟩; rotate_left; (focus (go_simp; first | done | with_reducible rfl)); try simp only [Act.put, List.setIfInBounds_toArray, List.set_cons_zero, List.set_cons_succ])
            (refine wpSeqG_movR rfl rfl rfl ?_; intro o ho; simp only [List.getElem?_toArray, List.getElem?_cons_zero, List.getElem?_cons_succ, Option.some.injEq] at ho; subst ho; refine ⟨?_, Or.inl ⟨by rfl, fun W hSW => ?_⟩, ?_⟩; rotate_left; (focus (go_simp; first | done | with_reducible rfl)); try simp only [Act.put, List.setIfInBounds_toArray, List.set_cons_zero, List.set_cons_succ])
            have k4 := k3.out (.slice (some ⟨bb, 0, none⟩) lb.length rb)
            have z4 := z3.out (.slice (some ⟨bb, 0, none⟩) lb.length rb)
            (refine wpSeqG_fix rfl rfl rfl ?_; intro o ho; simp only [List.getElem?_toArray, List.getElem?_cons_zero, List.getElem?_cons_succ, Option.some.injEq] at ho; subst ho; intro K hK)
            go_simp
            (refine hK.out _ _ (fun h => by simp at h) (fun _ _ => R2.out _) ?_; clear hK K; try simp only [Act.put, List.setIfInBounds_toArray, List.set_cons_zero, List.set_cons_succ])
            (refine wpSeqG_movR rfl rfl rfl ?_; intro o ho; simp only [List.getElem?_toArray, List.getElem?_cons_zero, List.getElem?_cons_succ, Option.some.injEq] at ho; subst ho; refine ⟨?_, Or.inl ⟨by rfl, fun W hSW => ?_⟩, ?_⟩; rotate_left; (focus (go_simp; first | done | with_reducible rfl)); try simp only [Act.put, List.setIfInBounds_toArray, List.set_cons_zero, List.set_cons_succ])
            (refine wpSeqG_fix rfl rfl rfl ?_; intro o ho; simp only [List.getElem?_toArray, List.getElem?_cons_zero, List.getElem?_cons_succ, Option.some.injEq] at ho; subst ho; intro K hK)
            go_simp
            (refine hK.out _ _ (fun h => by simp at h) (fun _ _ => R1.out _ _) ?_; clear hK K; try simp only [Act.put, List.setIfInBounds_toArray, List.set_cons_zero, List.set_cons_succ])
            refine wpSeqG_done ?_
            have hX : XSt w1 ((w3.setCell ⟨g, j, none⟩ (.slice (some ⟨bb, 0, none⟩) lb.length rb)).setCell ⟨g, q, none⟩ (.slice (some ⟨ba, 0, none⟩) la.length ra)) (w1.heap.size + 1 + 1) (N : Int) (((zs'.set j (bb, rb, lb)).set q (ba, ra, la)).map (·.2.2)) (some ⟨g, 0, none⟩) d ((zs'.set j (bb, rb, lb)).set q (ba, ra, la)) :=
              ⟨⟨(HU2.out.low.b.setCell (p := ⟨g, j, none⟩) hgb _).setCell (p := ⟨g, q, none⟩) hgb _⟩, HU2.out.pb, by
                rw [List.length_set, List.length_set]
                exact ⟨(HU2.out.box.p.far (p := ⟨g, j, none⟩) hgp _).far (p := ⟨g, q, none⟩) hgp _⟩, HU2.out.kb.swap HA.out HA2.out rfl, rfl⟩
            have HX := Lib.hid hX
            clear k1 k2 k4 z1 z2 z4 hX R1 R2 k3 z3
            go_wp2_with fail
            go_roundw
            case rel =>
              refine ⟨j + 1, _, _, by omega, by go_num, HX.out, by rw [List.length_set, List.length_set]; exact HZ'.out, fun c => ?_⟩
              rw [← HMEM.out c, ← HU2.out.eq, List.mem_map, List.mem_map]
              constructor
              · rintro ⟨z, h1, h2⟩
                exact ⟨z, (mem_swap HA.out HA2.out z).1 h1, h2⟩
              · rintro ⟨z, h1, h2⟩
                exact ⟨z, (mem_swap HA.out HA2.out z).2 h1, h2⟩
            case measure => simp [intOf]; omega
          · have hjn' : ¬ (j : Int) < (N : Int) / 2 := by omega
            have hzn : zs'.length = N := HZ'.out
            have hjz : ¬ (j : Int) < (zs'.length : Int) / 2 := by rw [hzn]; exact hjn'
            have htz : (zs'.length : Int).tdiv 2 = (zs'.length : Int) / 2 := Int.tdiv_eq_ediv_of_nonneg (by omega)
            have hzl9 : zs'.length ≤ 200 := by omega
            clear c0 c1 f1 htd hjn'
            have HCL := Lib.hid HU.out.cls
            have HCC := Lib.hid (⟨HU.out.kb.cap, HU.out.len⟩ : zs'.length ≤ d ∧ zs'.length = cs.length)
            have HK := Lib.hid HU.out.box
            have HL2 := Lib.hid (HL1.out.step HU.out.low.b)
            have c0 := HK.out.cell 0
            have c1 := HK.out.cell 1
            have hpl := HK.out.p.lt
            clear HU
            cases last
            · have HST := Lib.hid (solve_units N hN2 cs HMEM.out (by have := HCC.out.2; omega) B d [] none 0 wr (fun x hx => by cases hx) (by simp) HCL.out Vals.nil (by have := HCC.out; omega) (Nat.le_refl _))
              rw [← HCC.out.2] at HST
              have HZN2 := Lib.hid hzn
              clear hzn
              go_wp2_with fail
              refine HST.out.mono ?_
              rintro e w2 ⟨hb, ⟨rfl, hno⟩ | ⟨g9, L, rfl, hg9, hbl, hL, hsat, _⟩⟩
              · exact (hno _ (units_true N HMEM.out) (fun a ha => by cases ha)).elim
              have HAL : Hid (∀ i, i < N → L.getD i false = true) := Lib.hid fun i hi => by
                have := units_all N HMEM.out hsat i hi
                unfold mL at this
                rwa [Nat.add_sub_cancel] at this
              have HBL : Hid (BlkF w2 g9 4 (bools L).toArray) := ⟨hbl⟩
              have HLL := Lib.hid hL
              replace HL2 := Lib.hid (HL2.out.step hb); replace HK := Lib.hid (HK.out.step hb)
              clear hb hbl hL hsat HST c0 c1 HCL
              go_wp2_with fail
              go_loopw [7, 15] (fun ok i wr => ∃ j : Nat, j ≤ N ∧ ok = .bool true ∧ i = .int .i64 j ∧ Low w2 wr) (fun _ i _ => N - (intOf i).toNat)
              case atStart => exact ⟨0, Nat.zero_le _, rfl, rfl, Low.refl _⟩
              case round =>
                obtain ⟨j9, hj9, rfl, rfl, hlow⟩ := hrel
                have HLW := Lib.hid hlow
                clear hlow
                by_cases hj9n : j9 < N
                · have hj9n' : (j9 : Int) < (N : Int) := by omega
                  have hgt : L[j9]? = some true := by
                    have h1 := HAL.out j9 hj9n
                    rw [List.getD_eq_getElem?_getD] at h1
                    have h2 : j9 < L.length := by rw [HLL.out]; exact hj9n
                    rw [List.getElem?_eq_getElem h2] at h1 ⊢
                    exact congrArg some h1
                  have q1 : wr.cell? ⟨g9, j9, none⟩ = some (.bool true) := by
                    rw [(HBL.out.step HLW.out.b).cell j9, List.getElem?_toArray]
                    exact bools_get hgt
                  clear hgt
                  go_wp2_with fail
                  go_roundw
                  case rel => exact ⟨j9 + 1, by omega, rfl, by go_num, HLW.out⟩
                  case measure => simp [intOf]; omega
                · have hj9n' : ¬ (j9 : Int) < (N : Int) := by omega
                  have k0 := (HK.out.step HLW.out.b).cell 0
                  have k1 := (HK.out.step HLW.out.b).cell 1
                  go_wp2_with fail
                  go_ret
                  exact ⟨rfl, (HL2.out.step HLW.out.b).b⟩
            · have HBN := Lib.hid (stepA wr (.cells #[.int .i64 (-(N : Int))] 3))
              have HVN := Lib.hid (vals_of_blk (Blk.new wr 3 (i64s [-(N : Int)]).toArray))
              have HST := Lib.hid (solve_units N hN2 cs HMEM.out (by have := HCC.out.2; omega) B d [-(N : Int)] (some ⟨wr.heap.size, 0, none⟩) 1 (wr.alloc (.cells #[.int .i64 (-(N : Int))] 3)) (fun x hx => by
                obtain rfl := List.mem_singleton.1 hx
                omega) (by simp) (HCL.out.after HBN.out) HVN.out (by have := HCC.out; omega) (Nat.le_refl _))
              rw [← HCC.out.2] at HST
              have HZN2 := Lib.hid hzn
              clear hzn
              go_wp2_with fail
              replace HL2 := Lib.hid (HL2.out.step (stepA wr (.cells #[.int .i64 (-(N : Int))] 3))); replace HK := Lib.hid (HK.out.step (stepA wr (.cells #[.int .i64 (-(N : Int))] 3)))
              refine HST.out.mono ?_
              rintro e w2 ⟨hb, ⟨rfl, _⟩ | ⟨g9, L, rfl, _, _, hL, hsat, hall⟩⟩
              rotate_left
              · have h1 := units_all N HMEM.out hsat (N - 1) (by omega)
                have h2 := hall (-(N : Int)) (List.mem_singleton.2 rfl)
                rw [show N - 1 + 1 = N by omega] at h1
                unfold litOn at h2
                rw [if_pos (by omega), show (-(N : Int)).natAbs = N by omega, h1] at h2
                cases h2
              replace HL2 := Lib.hid (HL2.out.step hb); replace HK := Lib.hid (HK.out.step hb)
              clear hb HST c0 c1 HCL HBN HVN
              go_wp2_with fail
              go_loopw [7, 15] (fun ok i wr => ok = .bool true ∧ i = .int .i64 0 ∧ wr = w2) (fun _ _ _ => 0)
              case atStart => exact ⟨rfl, rfl, rfl⟩
              case round =>
                obtain ⟨rfl, rfl, hw⟩ := hrel
                have hw' := hw.symm
                subst hw'
                clear hw
                have k0 := HK.out.cell 0
                have k1 := HK.out.cell 1
                go_wp2_with fail
                go_ret
                exact ⟨rfl, HL2.out.b⟩
end Go.Proofs.Ytbkmgblijncjhaa
