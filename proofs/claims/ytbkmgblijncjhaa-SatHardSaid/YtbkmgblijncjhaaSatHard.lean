/- Layer 15: SatHard. -/
import Derived.Test.YtbkmgblijncjhaaG7
import Derived.Test.YtbkmgblijncjhaaG9
set_option linter.unusedVariables false
set_option linter.unusedSimpArgs false
namespace Go.Proofs.Ytbkmgblijncjhaa
open Go.RowKit Go.Maps

theorem satHard_in (H P : Nat) (hH0 : 1 ≤ H) (hH : H ≤ 4) (hP : P ≤ 5) {A : Option Addr} {c : Nat} {W : World} (hp : Cls W W.heap.size A (hardK H P)) (hc : (hardK H P).length ≤ c) :
    Calls Try.prog 11 #[.agg #[.int .i64 ((P : Int) * H), .slice A (hardK H P).length c], .slice none 0 0, .int .i64 0] W (SolPost W (P * H) (hardK H P) []) := by
  have hPH : P * H ≤ 5 * 4 := Nat.mul_le_mul hP hH
  have := solve_any (P * H) (by omega) (hardK H P) A c [] none 0 W (hardK_right hH hP) rfl (fun x hx => by have := hardK_small hH x hx; omega) (by simp) hp Vals.nil hc (Nat.le_refl _)
  rw [show ((P * H : Nat) : Int) = (P : Int) * H by simp] at this
  exact this

set_option maxRecDepth 100000 in
set_option maxHeartbeats 8000000 in
theorem satHard_yes (n : Int) (w : World) (hn : 0 ≤ n ∧ n ≤ 255) :
    Calls Try.prog 7 #[.int .u8 n, .bool false] w (Ret w (.bool true)) := by
  have hnot := @not_run Try.prog
  obtain ⟨n0, n1⟩ := hn
  have ht4 : n.tmod 4 = n % 4 := Int.tmod_eq_emod_of_nonneg n0
  obtain ⟨H, hH⟩ : ∃ H : Nat, 1 + n % 4 = (H : Int) := ⟨(1 + n % 4).toNat, by omega⟩
  have hH1 : 1 ≤ H := by omega
  have hH4 : H ≤ 4 := by omega
  have hP5 : H ≤ 5 := by omega
  have hPH : H * H ≤ 5 * 4 := Nat.mul_le_mul hP5 hH4
  have hPHi : (H : Int) * H = ((H * H : Nat) : Int) := by simp
  have hPH0 : 0 ≤ (H : Int) * H := by rw [hPHi]; omega
  have hPH1 : (H : Int) * H ≤ 20 := by rw [hPHi]; omega
  clear hPHi
  go_enter Try.func7, Try.ntmps7
  go_wp2_with fail
  refine (awake15_any _).mono ?_
  rintro e w1 ⟨rfl, hb⟩
  have HL1 := Lib.hid ((Low.refl w).step hb)
  clear hb
  have hS0 := XSt.new w1 ((H : Int) * H)
  go_wp2_with fail
  clear ht4 hH
  go_loopw [9] (fun i wr => ∃ (k : Nat) (B : Option Addr) (d : Nat) (zs : Ks), k ≤ H ∧ i = .int .i64 k ∧ XSt w1 wr w1.heap.size ((H : Int) * H) (holesK H k) B d zs) (fun i _ => H - (intOf i).toNat)
  case atStart => exact ⟨0, none, 0, [], Nat.zero_le _, rfl, hS0⟩
  case round =>
    obtain ⟨k, B, d, zs, hk, rfl, hst⟩ := hrel
    have HS := Lib.hid hst
    have hzl : zs.length ≤ 5 := by
      rw [HS.out.len, holesK_len]
      omega
    clear hst hS0
    by_cases hkp : k < H
    · have hkp' : (k : Int) < (H : Int) := by omega
      have hkH : k * H ≤ 5 * 4 := Nat.mul_le_mul (by omega) hH4
      have hkHi : (k : Int) * H = ((k * H : Nat) : Int) := by simp
      have hkH0 : 0 ≤ (k : Int) * H := by rw [hkHi]; omega
      have hkH1 : (k : Int) * H ≤ 20 := by rw [hkHi]; omega
      clear hkHi
      go_wp2_with fail
      obtain ⟨wo, rfl⟩ : ∃ wo : World, wo = wr := ⟨_, rfl⟩
      have hs := HS.out.low.size
      have HZ2 : Hid (∀ z ∈ zs, z.1 < wo.heap.size) := Lib.hid fun z hz => (HS.out.kb.inner z hz).2.lt
      go_loopw [10, 11] (fun s i wr => ∃ (j : Nat) (K : Option Addr) (ck : Nat), j ≤ H ∧ s = .slice K j ck ∧ i = .int .i64 j ∧ OwnF wr wo.heap.size 3 1 (.slice K j ck) j (i64s (holeL H k j)) ∧ XSt w1 wr w1.heap.size ((H : Int) * H) (holesK H k) B d zs ∧ Low wo wr) (fun _ i _ => H - (intOf i).toNat)
      case atStart => exact ⟨0, none, 0, Nat.zero_le _, rfl, rfl, ⟨World.ownsRow_nil _ _ _ _⟩, HS.out, Low.refl _⟩
      case round =>
        obtain ⟨j, K, ck, hj, rfl, rfl, hown, hcs, hlow⟩ := hrel
        have HO := Lib.hid hown
        have HC := Lib.hid hcs
        have HL := Lib.hid hlow
        obtain ⟨i0, hi0, hz0, hz1, hz2⟩ := info_parts intInfoK
        have hs2 := HL.out.size
        clear hown hcs hlow
        by_cases hjm : j < H
        · have hjm' : (j : Int) < (H : Int) := by omega
          have HHX : Hid (holeX H k j = 1 + (k : Int) * H + j) := Lib.hid rfl
          go_wp2_with (first | (at_builtin; refine wpList_append_vals _ rfl (.tmp 43) (.tmp 50) _ rfl wo.heap.size 3 i0 _ 1 8 Try.underlying25 hi0 hz0 hz1 hz2 rfl (by omega) (.slice K j ck) j (i64s (holeL H k j)) rfl (HO.out.p.alloc _) _ _ 1 1 [.int .i64 (1 + (k : Int) * H + j)] rfl rfl (vals_new wr [.int .i64 (1 + (k : Int) * H + j)] 3) (i64s_one [1 + (k : Int) * H + j]) (by unfold maxLen; omega) (by omega) (by simp; omega) ?_; intro v5 w5 hown5 hg5; have HO5 := Lib.hid hown5; have HL5 := Lib.hid ((HL.out.step (stepA wr (.cells #[.int .i64 (1 + (k : Int) * H + j)] 3))).grown hg5 (own_block HO.out.p)); have HC5 := Lib.hid ((HC.out.step (stepA wr (.cells #[.int .i64 (1 + (k : Int) * H + j)] 3))).aside (HO.out.p.alloc _) hs HZ2.out hg5); clear hown5 hg5))
          go_roundw
          case rel =>
            obtain ⟨A6, c6, hv6, _⟩ := own_form HO5.out
            subst hv6
            refine ⟨j + 1, A6, c6, by omega, rfl, by go_num, ⟨?_⟩, HC5.out, HL5.out⟩
            rw [holeL_succ, HHX.out, i64s_append]
            exact HO5.out
          case measure => simp [intOf]; omega
        · have hjm' : ¬ (j : Int) < (H : Int) := by omega
          obtain rfl : j = H := by omega
          have HLN : Hid ((holeL j k j).length = j) := holeL_len j k j
          obtain ⟨q0, hq0, hy0, hy1, hy2⟩ := info_parts rowInfoK
          have hK := HO.out.p
          have hpos : 0 < (holeL j k j).length := by rw [HLN.out]; omega
          obtain ⟨g, rfl, hgb, hgc, hgi⟩ := HasI.of_own (l := holeL j k j) (A := K) (c := ck) (base := wo.heap.size) (w := wr) (by rw [HLN.out]; exact hK) hpos
          have HGI := Lib.hid hgi
          have HGC := Lib.hid hgc
          clear hK hgi hgc hpos
          have c0 := HC.out.box.cell 0
          have c1 := HC.out.box.cell 1
          have f1 := HC.out.box.p.frozen 1
          have HC1 := Lib.hid (HC.out.step (stepA wr (.cells #[.slice (some ⟨g, 0, none⟩) j ck] 25)))
          go_wp2_with (first | (at_builtin; refine wpList_append_vals _ rfl (.tmp 53) (.tmp 55) _ rfl w1.heap.size 25 q0 _ 1 24 Try.underlying22 hq0 hy0 hy1 hy2 rfl (by omega) (.slice B zs.length d) zs.length (zs.map slotK) rfl HC1.out.kb.own _ _ 1 1 [.slice (some ⟨g, 0, none⟩) j ck] rfl rfl (vals_new wr [.slice (some ⟨g, 0, none⟩) j ck] 25) (by intro u hu; obtain rfl := List.mem_singleton.1 hu; rfl) (by unfold maxLen; omega) (by omega) (by simp; omega) ?_; intro v5 w5 hown5 hg5; obtain ⟨A6, c6, rfl, hcap6⟩ := own_form hown5; have HG5 := Lib.hid hg5; have HO5 := Lib.hid hown5; have HB5 := Lib.hid (HC1.out.box.p.by_ hg5 (own_ne HC1.out.kb.own HC1.out.box.p (by decide))); clear hown5 hg5 c0 c1 f1; have c1 := HB5.out.cell 1; have f1 := HB5.out.frozen 1))
          have e3 : slotK (g, ck, holeL j k j) = .slice (some ⟨g, 0, none⟩) j ck := by
            unfold slotK
            simp only [HLN.out]
          go_roundw
          case rel =>
            refine ⟨k + 1, A6, c6, zs ++ [(g, ck, holeL j k j)], by omega, by go_num, ?_⟩
            have hput := HC1.out.put (c' := c6) (A' := A6) (ys := [(g, ck, holeL j k j)]) HG5.out (by simpa [e3] using HO5.out) (fun y hy => by
              obtain rfl := List.mem_singleton.1 hy
              exact ⟨HGC.out, HGI.out.below (stepA wr _)⟩)
            rw [holesK_succ]
            simpa using hput
          case measure => simp [intOf]; omega
    · have hkp' : ¬ (k : Int) < (H : Int) := by omega
      have hkP : k = H := by omega
      rw [hkP] at HS
      clear hkP
      go_wp2_with fail
      have HS0 : Hid (XSt w1 wr w1.heap.size ((H : Int) * H) (holesK H H ++ pairH H H 0) B d zs) := Lib.hid (by
        rw [show pairH H H 0 = [] from rfl, List.append_nil]
        exact HS.out)
      clear HS hkp' hzl hkp hk
      go_loopw [12] (fun i wr => ∃ (h : Nat) (B : Option Addr) (d : Nat) (zs : Ks), h ≤ H ∧ i = .int .i64 h ∧ XSt w1 wr w1.heap.size ((H : Int) * H) (holesK H H ++ pairH H H h) B d zs) (fun i _ => H - (intOf i).toNat)
      case atStart => exact ⟨0, B, d, zs, Nat.zero_le _, rfl, HS0.out⟩
      case round =>
        obtain ⟨h, B, d, zs, hh, rfl, hst⟩ := hrel
        have HS := Lib.hid hst
        clear hst HS0
        by_cases hhH : h < H
        · have hhH' : (h : Int) < (H : Int) := by omega
          go_wp2_with fail
          obtain ⟨wo, rfl⟩ : ∃ wo : World, wo = wr := ⟨_, rfl⟩
          go_loopw [13] (fun i wr => ∃ (p : Nat) (B : Option Addr) (d : Nat) (zs : Ks), p ≤ H ∧ i = .int .i64 p ∧ XSt w1 wr w1.heap.size ((H : Int) * H) (holesK H H ++ pairH H H h ++ pairP H h p) B d zs) (fun i _ => H - (intOf i).toNat)
          case atStart =>
            refine ⟨0, B, d, zs, Nat.zero_le _, rfl, ?_⟩
            rw [show pairP H h 0 = [] from rfl, List.append_nil]
            exact HS.out
          case round =>
            obtain ⟨p, B, d, zs, hp, rfl, hst⟩ := hrel
            have HS2 := Lib.hid hst
            clear hst HS
            by_cases hpP : p < H
            · have hpP' : (p : Int) < (H : Int) := by omega
              have hpH : p * H ≤ 5 * 4 := Nat.mul_le_mul (by omega) hH4
              have hpHi : (p : Int) * H = ((p * H : Nat) : Int) := by simp
              have hpH0 : 0 ≤ (p : Int) * H := by rw [hpHi]; omega
              have hpH1 : (p : Int) * H ≤ 20 := by rw [hpHi]; omega
              clear hpHi
              go_wp2_with fail
              obtain ⟨wp, rfl⟩ : ∃ wp : World, wp = wr := ⟨_, rfl⟩
              go_loopw [14] (fun i wr => ∃ (q : Nat) (B : Option Addr) (d : Nat) (zs : Ks), q ≤ p ∧ i = .int .i64 q ∧ XSt w1 wr w1.heap.size ((H : Int) * H) (holesK H H ++ pairH H H h ++ pairP H h p ++ pairL H h p q) B d zs) (fun i _ => p - (intOf i).toNat)
              case atStart =>
                refine ⟨0, B, d, zs, Nat.zero_le _, rfl, ?_⟩
                rw [show pairL H h p 0 = [] from rfl, List.append_nil]
                exact HS2.out
              case round =>
                obtain ⟨q, B, d, zs, hq, rfl, hst⟩ := hrel
                have HS3 := Lib.hid hst
                have hs := HS3.out.low.size
                have hzl : zs.length ≤ 100 := by
                  rw [HS3.out.len, List.length_append, List.length_append, List.length_append, holesK_len, pairL_len]
                  have h1 := pairH_len H H hP5 h
                  have h2 := pairP_len10 H h p (by omega)
                  omega
                clear hst HS2
                by_cases hqp : q < p
                · have hqp' : (q : Int) < (p : Int) := by omega
                  have hqH : q * H ≤ 5 * 4 := Nat.mul_le_mul (by omega) hH4
                  have hqHi : (q : Int) * H = ((q * H : Nat) : Int) := by simp
                  have hqH0 : 0 ≤ (q : Int) * H := by rw [hqHi]; omega
                  have hqH1 : (q : Int) * H ≤ 20 := by rw [hqHi]; omega
                  clear hqHi
                  obtain ⟨q0, hq0, hy0, hy1, hy2⟩ := info_parts rowInfoK
                  have hB1 := (Blk.new wr 3 #[.int .i64 (-1 - (p : Int) * H - h), .int .i64 (-1 - (q : Int) * H - h)]).alloc (.cells #[slotK (wr.heap.size, 2, pairC H h p q)] 25)
                  have hvn := vals_new (wr.alloc (.cells #[.int .i64 (-1 - (p : Int) * H - h), .int .i64 (-1 - (q : Int) * H - h)] 3)) [slotK (wr.heap.size, 2, pairC H h p q)] 25
                  have HX2 := Lib.hid ((HS3.out.step (stepA wr (.cells #[.int .i64 (-1 - (p : Int) * H - h), .int .i64 (-1 - (q : Int) * H - h)] 3))).step (stepA _ (.cells #[slotK (wr.heap.size, 2, pairC H h p q)] 25)))
                  simp only [World.size_alloc] at hvn
                  have HB1 := Lib.hid hB1
                  have HVN : Hid (Vals _ _ (some ⟨wr.heap.size + 1, 0, none⟩) [slotK (wr.heap.size, 2, pairC H h p q)]) := Lib.hid hvn
                  have c0 := HS3.out.box.cell 0
                  have c1 := HS3.out.box.cell 1
                  have f1 := HS3.out.box.p.frozen 1
                  clear hB1 hvn
                  go_wp2_with (first | (at_builtin; refine wpList_append_vals _ rfl (.tmp 74) (.tmp 88) _ rfl w1.heap.size 25 q0 _ 1 24 Try.underlying22 hq0 hy0 hy1 hy2 rfl (by omega) (.slice B zs.length d) zs.length (zs.map slotK) rfl HX2.out.kb.own _ _ 1 1 [slotK (wr.heap.size, 2, pairC H h p q)] rfl rfl (HVN.out) (slotK_one [(wr.heap.size, 2, pairC H h p q)]) (by unfold maxLen; omega) (by omega) (by simp; omega) ?_; intro v5 w5 hown5 hg5; obtain ⟨A6, c6, rfl, hcap6⟩ := own_form hown5; have HG5 := Lib.hid hg5; have HO5 := Lib.hid hown5; have HB5 := Lib.hid (HX2.out.box.p.by_ hg5 (own_ne HX2.out.kb.own HX2.out.box.p (by decide))); clear hown5 hg5 c0 c1 f1; have c1 := HB5.out.cell 1; have f1 := HB5.out.frozen 1))
                  go_roundw
                  case rel =>
                    refine ⟨q + 1, A6, c6, zs ++ [(wr.heap.size, 2, pairC H h p q)], by omega, by go_num, ?_⟩
                    have hput := HX2.out.put (c' := c6) (A' := A6) (ys := [(wr.heap.size, 2, pairC H h p q)]) HG5.out (by simpa using HO5.out) (fun y hy => by
                      obtain rfl := List.mem_singleton.1 hy
                      exact ⟨Nat.le_refl _, HasI.of_blk HB1.out⟩)
                    rw [pairL_succ, ← List.append_assoc]
                    simpa using hput
                  case measure => simp [intOf]; omega
                · have hqp' : ¬ (q : Int) < (p : Int) := by omega
                  have hqP : q = p := by omega
                  rw [hqP] at HS3
                  clear hqP
                  go_wp2_with fail
                  go_roundw
                  case rel =>
                    refine ⟨p + 1, B, d, zs, by omega, by go_num, ?_⟩
                    rw [pairP_succ, ← List.append_assoc]
                    exact HS3.out
                  case measure => simp [intOf]; omega
            · have hpP' : ¬ (p : Int) < (H : Int) := by omega
              have hpe : p = H := by omega
              rw [hpe] at HS2
              clear hpe
              go_wp2_with fail
              go_roundw
              case rel =>
                refine ⟨h + 1, B, d, zs, by omega, by go_num, ?_⟩
                rw [pairH_succ, ← List.append_assoc]
                exact HS2.out
              case measure => simp [intOf]; omega
        · have hhH' : ¬ (h : Int) < (H : Int) := by omega
          have hhe : h = H := by omega
          rw [hhe] at HS
          clear hhe
          have HCL : Hid (Cls wr wr.heap.size B (hardK H H)) := Lib.hid HS.out.cls
          have HCC := Lib.hid (⟨HS.out.kb.cap, HS.out.len⟩ : zs.length ≤ d ∧ zs.length = (hardK H H).length)
          have HK := Lib.hid HS.out.box
          have HL2 := Lib.hid (HL1.out.step HS.out.low.b)
          have c0 := HK.out.cell 0
          have c1 := HK.out.cell 1
          clear HS
          obtain ⟨hcc, hce⟩ := HCC.out
          have HST := Lib.hid (satHard_in H H hH1 hH4 hP5 HCL.out (c := d) (by omega))
          rw [← hce] at HST
          clear hce hcc
          go_wp2_with fail
          refine HST.out.mono ?_
          clear HST
          rintro e w2 ⟨hb, ⟨rfl, hno⟩ | ⟨g, L, rfl, hg, hbl, hL, hsat, _⟩⟩
          · exact (hno _ (hard_yes H hH1) (fun a ha => by cases ha)).elim
          have HSO := Lib.hid ((satF_soC (hardK_right hH4 hP5) hL).2 hsat)
          have HBL : Hid (BlkF w2 g 4 (bools L).toArray) := ⟨hbl⟩
          have HLL := Lib.hid hL
          replace HL2 := Lib.hid (HL2.out.step hb); replace HK := Lib.hid (HK.out.step hb)
          replace HCL := Lib.hid (HCL.out.after hb)
          replace c0 := HK.out.cell 0
          replace c1 := HK.out.cell 1
          clear hb hbl hL hsat
          have HRS := Lib.hid (rcso_any ((H * H : Nat) : Int) (hardK H H) L B (some ⟨g, 0, none⟩) d L.length w2 (by have := hardK_len hH4 hP5; omega) (fun x hx => by have := hardK_small hH4 x hx; omega) (by have := HLL.out; omega) HCL.out (vals_of_blk HBL.out.p))
          rw [HSO.out, HLL.out, ← HCC.out.2, show ((H * H : Nat) : Int) = (H : Int) * H by simp] at HRS
          go_wp2_with fail
          refine HRS.out.mono ?_
          rintro e w3 ⟨rfl, hb⟩
          replace HL2 := Lib.hid (HL2.out.step hb)
          clear hb HRS c0 c1
          go_wp2_with fail
          go_ret
          exact ⟨rfl, HL2.out.b⟩

set_option maxRecDepth 100000 in
set_option maxHeartbeats 8000000 in
theorem satHard_no (n : Int) (w : World) (hn : 0 ≤ n ∧ n ≤ 255) :
    Calls Try.prog 7 #[.int .u8 n, .bool true] w (Ret w (.bool true)) := by
  have hnot := @not_run Try.prog
  obtain ⟨n0, n1⟩ := hn
  have ht4 : n.tmod 4 = n % 4 := Int.tmod_eq_emod_of_nonneg n0
  obtain ⟨H, hH⟩ : ∃ H : Nat, 1 + n % 4 = (H : Int) := ⟨(1 + n % 4).toNat, by omega⟩
  have hH1 : 1 ≤ H := by omega
  have hH4 : H ≤ 4 := by omega
  obtain ⟨P, hP⟩ : ∃ P : Nat, (H : Int) + 1 = (P : Int) := ⟨H + 1, by omega⟩
  have HPE : Hid (P = H + 1) := Lib.hid (by omega)
  have hP5 : P ≤ 5 := by omega
  have hPH : P * H ≤ 5 * 4 := Nat.mul_le_mul hP5 hH4
  have hPHi : (P : Int) * H = ((P * H : Nat) : Int) := by simp
  have hPH0 : 0 ≤ (P : Int) * H := by rw [hPHi]; omega
  have hPH1 : (P : Int) * H ≤ 20 := by rw [hPHi]; omega
  clear hPHi
  go_enter Try.func7, Try.ntmps7
  go_wp2_with fail
  refine (awake15_any _).mono ?_
  rintro e w1 ⟨rfl, hb⟩
  have HL1 := Lib.hid ((Low.refl w).step hb)
  clear hb
  have hS0 := XSt.new w1 ((P : Int) * H)
  go_wp2_with fail
  clear ht4 hH hP
  go_loopw [9] (fun i wr => ∃ (k : Nat) (B : Option Addr) (d : Nat) (zs : Ks), k ≤ P ∧ i = .int .i64 k ∧ XSt w1 wr w1.heap.size ((P : Int) * H) (holesK H k) B d zs) (fun i _ => P - (intOf i).toNat)
  case atStart => exact ⟨0, none, 0, [], Nat.zero_le _, rfl, hS0⟩
  case round =>
    obtain ⟨k, B, d, zs, hk, rfl, hst⟩ := hrel
    have HS := Lib.hid hst
    have hzl : zs.length ≤ 5 := by
      rw [HS.out.len, holesK_len]
      omega
    clear hst hS0
    by_cases hkp : k < P
    · have hkp' : (k : Int) < (P : Int) := by omega
      have hkH : k * H ≤ 5 * 4 := Nat.mul_le_mul (by omega) hH4
      have hkHi : (k : Int) * H = ((k * H : Nat) : Int) := by simp
      have hkH0 : 0 ≤ (k : Int) * H := by rw [hkHi]; omega
      have hkH1 : (k : Int) * H ≤ 20 := by rw [hkHi]; omega
      clear hkHi
      go_wp2_with fail
      obtain ⟨wo, rfl⟩ : ∃ wo : World, wo = wr := ⟨_, rfl⟩
      have hs := HS.out.low.size
      have HZ2 : Hid (∀ z ∈ zs, z.1 < wo.heap.size) := Lib.hid fun z hz => (HS.out.kb.inner z hz).2.lt
      go_loopw [10, 11] (fun s i wr => ∃ (j : Nat) (K : Option Addr) (ck : Nat), j ≤ H ∧ s = .slice K j ck ∧ i = .int .i64 j ∧ OwnF wr wo.heap.size 3 1 (.slice K j ck) j (i64s (holeL H k j)) ∧ XSt w1 wr w1.heap.size ((P : Int) * H) (holesK H k) B d zs ∧ Low wo wr) (fun _ i _ => H - (intOf i).toNat)
      case atStart => exact ⟨0, none, 0, Nat.zero_le _, rfl, rfl, ⟨World.ownsRow_nil _ _ _ _⟩, HS.out, Low.refl _⟩
      case round =>
        obtain ⟨j, K, ck, hj, rfl, rfl, hown, hcs, hlow⟩ := hrel
        have HO := Lib.hid hown
        have HC := Lib.hid hcs
        have HL := Lib.hid hlow
        obtain ⟨i0, hi0, hz0, hz1, hz2⟩ := info_parts intInfoK
        have hs2 := HL.out.size
        clear hown hcs hlow
        by_cases hjm : j < H
        · have hjm' : (j : Int) < (H : Int) := by omega
          have HHX : Hid (holeX H k j = 1 + (k : Int) * H + j) := Lib.hid rfl
          go_wp2_with (first | (at_builtin; refine wpList_append_vals _ rfl (.tmp 43) (.tmp 50) _ rfl wo.heap.size 3 i0 _ 1 8 Try.underlying25 hi0 hz0 hz1 hz2 rfl (by omega) (.slice K j ck) j (i64s (holeL H k j)) rfl (HO.out.p.alloc _) _ _ 1 1 [.int .i64 (1 + (k : Int) * H + j)] rfl rfl (vals_new wr [.int .i64 (1 + (k : Int) * H + j)] 3) (i64s_one [1 + (k : Int) * H + j]) (by unfold maxLen; omega) (by omega) (by simp; omega) ?_; intro v5 w5 hown5 hg5; have HO5 := Lib.hid hown5; have HL5 := Lib.hid ((HL.out.step (stepA wr (.cells #[.int .i64 (1 + (k : Int) * H + j)] 3))).grown hg5 (own_block HO.out.p)); have HC5 := Lib.hid ((HC.out.step (stepA wr (.cells #[.int .i64 (1 + (k : Int) * H + j)] 3))).aside (HO.out.p.alloc _) hs HZ2.out hg5); clear hown5 hg5))
          go_roundw
          case rel =>
            obtain ⟨A6, c6, hv6, _⟩ := own_form HO5.out
            subst hv6
            refine ⟨j + 1, A6, c6, by omega, rfl, by go_num, ⟨?_⟩, HC5.out, HL5.out⟩
            rw [holeL_succ, HHX.out, i64s_append]
            exact HO5.out
          case measure => simp [intOf]; omega
        · have hjm' : ¬ (j : Int) < (H : Int) := by omega
          obtain rfl : j = H := by omega
          have HLN : Hid ((holeL j k j).length = j) := holeL_len j k j
          obtain ⟨q0, hq0, hy0, hy1, hy2⟩ := info_parts rowInfoK
          have hK := HO.out.p
          have hpos : 0 < (holeL j k j).length := by rw [HLN.out]; omega
          obtain ⟨g, rfl, hgb, hgc, hgi⟩ := HasI.of_own (l := holeL j k j) (A := K) (c := ck) (base := wo.heap.size) (w := wr) (by rw [HLN.out]; exact hK) hpos
          have HGI := Lib.hid hgi
          have HGC := Lib.hid hgc
          clear hK hgi hgc hpos
          have c0 := HC.out.box.cell 0
          have c1 := HC.out.box.cell 1
          have f1 := HC.out.box.p.frozen 1
          have HC1 := Lib.hid (HC.out.step (stepA wr (.cells #[.slice (some ⟨g, 0, none⟩) j ck] 25)))
          go_wp2_with (first | (at_builtin; refine wpList_append_vals _ rfl (.tmp 53) (.tmp 55) _ rfl w1.heap.size 25 q0 _ 1 24 Try.underlying22 hq0 hy0 hy1 hy2 rfl (by omega) (.slice B zs.length d) zs.length (zs.map slotK) rfl HC1.out.kb.own _ _ 1 1 [.slice (some ⟨g, 0, none⟩) j ck] rfl rfl (vals_new wr [.slice (some ⟨g, 0, none⟩) j ck] 25) (by intro u hu; obtain rfl := List.mem_singleton.1 hu; rfl) (by unfold maxLen; omega) (by omega) (by simp; omega) ?_; intro v5 w5 hown5 hg5; obtain ⟨A6, c6, rfl, hcap6⟩ := own_form hown5; have HG5 := Lib.hid hg5; have HO5 := Lib.hid hown5; have HB5 := Lib.hid (HC1.out.box.p.by_ hg5 (own_ne HC1.out.kb.own HC1.out.box.p (by decide))); clear hown5 hg5 c0 c1 f1; have c1 := HB5.out.cell 1; have f1 := HB5.out.frozen 1))
          have e3 : slotK (g, ck, holeL j k j) = .slice (some ⟨g, 0, none⟩) j ck := by
            unfold slotK
            simp only [HLN.out]
          go_roundw
          case rel =>
            refine ⟨k + 1, A6, c6, zs ++ [(g, ck, holeL j k j)], by omega, by go_num, ?_⟩
            have hput := HC1.out.put (c' := c6) (A' := A6) (ys := [(g, ck, holeL j k j)]) HG5.out (by simpa [e3] using HO5.out) (fun y hy => by
              obtain rfl := List.mem_singleton.1 hy
              exact ⟨HGC.out, HGI.out.below (stepA wr _)⟩)
            rw [holesK_succ]
            simpa using hput
          case measure => simp [intOf]; omega
    · have hkp' : ¬ (k : Int) < (P : Int) := by omega
      have hkP : k = P := by omega
      rw [hkP] at HS
      clear hkP
      go_wp2_with fail
      have HS0 : Hid (XSt w1 wr w1.heap.size ((P : Int) * H) (holesK H P ++ pairH H P 0) B d zs) := Lib.hid (by
        rw [show pairH H P 0 = [] from rfl, List.append_nil]
        exact HS.out)
      clear HS hkp' hzl hkp hk
      go_loopw [12] (fun i wr => ∃ (h : Nat) (B : Option Addr) (d : Nat) (zs : Ks), h ≤ H ∧ i = .int .i64 h ∧ XSt w1 wr w1.heap.size ((P : Int) * H) (holesK H P ++ pairH H P h) B d zs) (fun i _ => H - (intOf i).toNat)
      case atStart => exact ⟨0, B, d, zs, Nat.zero_le _, rfl, HS0.out⟩
      case round =>
        obtain ⟨h, B, d, zs, hh, rfl, hst⟩ := hrel
        have HS := Lib.hid hst
        clear hst HS0
        by_cases hhH : h < H
        · have hhH' : (h : Int) < (H : Int) := by omega
          go_wp2_with fail
          obtain ⟨wo, rfl⟩ : ∃ wo : World, wo = wr := ⟨_, rfl⟩
          go_loopw [13] (fun i wr => ∃ (p : Nat) (B : Option Addr) (d : Nat) (zs : Ks), p ≤ P ∧ i = .int .i64 p ∧ XSt w1 wr w1.heap.size ((P : Int) * H) (holesK H P ++ pairH H P h ++ pairP H h p) B d zs) (fun i _ => P - (intOf i).toNat)
          case atStart =>
            refine ⟨0, B, d, zs, Nat.zero_le _, rfl, ?_⟩
            rw [show pairP H h 0 = [] from rfl, List.append_nil]
            exact HS.out
          case round =>
            obtain ⟨p, B, d, zs, hp, rfl, hst⟩ := hrel
            have HS2 := Lib.hid hst
            clear hst HS
            by_cases hpP : p < P
            · have hpP' : (p : Int) < (P : Int) := by omega
              have hpH : p * H ≤ 5 * 4 := Nat.mul_le_mul (by omega) hH4
              have hpHi : (p : Int) * H = ((p * H : Nat) : Int) := by simp
              have hpH0 : 0 ≤ (p : Int) * H := by rw [hpHi]; omega
              have hpH1 : (p : Int) * H ≤ 20 := by rw [hpHi]; omega
              clear hpHi
              go_wp2_with fail
              obtain ⟨wp, rfl⟩ : ∃ wp : World, wp = wr := ⟨_, rfl⟩
              go_loopw [14] (fun i wr => ∃ (q : Nat) (B : Option Addr) (d : Nat) (zs : Ks), q ≤ p ∧ i = .int .i64 q ∧ XSt w1 wr w1.heap.size ((P : Int) * H) (holesK H P ++ pairH H P h ++ pairP H h p ++ pairL H h p q) B d zs) (fun i _ => p - (intOf i).toNat)
              case atStart =>
                refine ⟨0, B, d, zs, Nat.zero_le _, rfl, ?_⟩
                rw [show pairL H h p 0 = [] from rfl, List.append_nil]
                exact HS2.out
              case round =>
                obtain ⟨q, B, d, zs, hq, rfl, hst⟩ := hrel
                have HS3 := Lib.hid hst
                have hs := HS3.out.low.size
                have hzl : zs.length ≤ 100 := by
                  rw [HS3.out.len, List.length_append, List.length_append, List.length_append, holesK_len, pairL_len]
                  have h1 := pairH_len H P hP5 h
                  have h2 := pairP_len10 H h p (by omega)
                  omega
                clear hst HS2
                by_cases hqp : q < p
                · have hqp' : (q : Int) < (p : Int) := by omega
                  have hqH : q * H ≤ 5 * 4 := Nat.mul_le_mul (by omega) hH4
                  have hqHi : (q : Int) * H = ((q * H : Nat) : Int) := by simp
                  have hqH0 : 0 ≤ (q : Int) * H := by rw [hqHi]; omega
                  have hqH1 : (q : Int) * H ≤ 20 := by rw [hqHi]; omega
                  clear hqHi
                  obtain ⟨q0, hq0, hy0, hy1, hy2⟩ := info_parts rowInfoK
                  have hB1 := (Blk.new wr 3 #[.int .i64 (-1 - (p : Int) * H - h), .int .i64 (-1 - (q : Int) * H - h)]).alloc (.cells #[slotK (wr.heap.size, 2, pairC H h p q)] 25)
                  have hvn := vals_new (wr.alloc (.cells #[.int .i64 (-1 - (p : Int) * H - h), .int .i64 (-1 - (q : Int) * H - h)] 3)) [slotK (wr.heap.size, 2, pairC H h p q)] 25
                  have HX2 := Lib.hid ((HS3.out.step (stepA wr (.cells #[.int .i64 (-1 - (p : Int) * H - h), .int .i64 (-1 - (q : Int) * H - h)] 3))).step (stepA _ (.cells #[slotK (wr.heap.size, 2, pairC H h p q)] 25)))
                  simp only [World.size_alloc] at hvn
                  have HB1 := Lib.hid hB1
                  have HVN : Hid (Vals _ _ (some ⟨wr.heap.size + 1, 0, none⟩) [slotK (wr.heap.size, 2, pairC H h p q)]) := Lib.hid hvn
                  have c0 := HS3.out.box.cell 0
                  have c1 := HS3.out.box.cell 1
                  have f1 := HS3.out.box.p.frozen 1
                  clear hB1 hvn
                  go_wp2_with (first | (at_builtin; refine wpList_append_vals _ rfl (.tmp 74) (.tmp 88) _ rfl w1.heap.size 25 q0 _ 1 24 Try.underlying22 hq0 hy0 hy1 hy2 rfl (by omega) (.slice B zs.length d) zs.length (zs.map slotK) rfl HX2.out.kb.own _ _ 1 1 [slotK (wr.heap.size, 2, pairC H h p q)] rfl rfl (HVN.out) (slotK_one [(wr.heap.size, 2, pairC H h p q)]) (by unfold maxLen; omega) (by omega) (by simp; omega) ?_; intro v5 w5 hown5 hg5; obtain ⟨A6, c6, rfl, hcap6⟩ := own_form hown5; have HG5 := Lib.hid hg5; have HO5 := Lib.hid hown5; have HB5 := Lib.hid (HX2.out.box.p.by_ hg5 (own_ne HX2.out.kb.own HX2.out.box.p (by decide))); clear hown5 hg5 c0 c1 f1; have c1 := HB5.out.cell 1; have f1 := HB5.out.frozen 1))
                  go_roundw
                  case rel =>
                    refine ⟨q + 1, A6, c6, zs ++ [(wr.heap.size, 2, pairC H h p q)], by omega, by go_num, ?_⟩
                    have hput := HX2.out.put (c' := c6) (A' := A6) (ys := [(wr.heap.size, 2, pairC H h p q)]) HG5.out (by simpa using HO5.out) (fun y hy => by
                      obtain rfl := List.mem_singleton.1 hy
                      exact ⟨Nat.le_refl _, HasI.of_blk HB1.out⟩)
                    rw [pairL_succ, ← List.append_assoc]
                    simpa using hput
                  case measure => simp [intOf]; omega
                · have hqp' : ¬ (q : Int) < (p : Int) := by omega
                  have hqP : q = p := by omega
                  rw [hqP] at HS3
                  clear hqP
                  go_wp2_with fail
                  go_roundw
                  case rel =>
                    refine ⟨p + 1, B, d, zs, by omega, by go_num, ?_⟩
                    rw [pairP_succ, ← List.append_assoc]
                    exact HS3.out
                  case measure => simp [intOf]; omega
            · have hpP' : ¬ (p : Int) < (P : Int) := by omega
              have hpe : p = P := by omega
              rw [hpe] at HS2
              clear hpe
              go_wp2_with fail
              go_roundw
              case rel =>
                refine ⟨h + 1, B, d, zs, by omega, by go_num, ?_⟩
                rw [pairH_succ, ← List.append_assoc]
                exact HS2.out
              case measure => simp [intOf]; omega
        · have hhH' : ¬ (h : Int) < (H : Int) := by omega
          have hhe : h = H := by omega
          rw [hhe] at HS
          clear hhe
          have HCL : Hid (Cls wr wr.heap.size B (hardK H P)) := Lib.hid HS.out.cls
          have HCC := Lib.hid (⟨HS.out.kb.cap, HS.out.len⟩ : zs.length ≤ d ∧ zs.length = (hardK H P).length)
          have HK := Lib.hid HS.out.box
          have HL2 := Lib.hid (HL1.out.step HS.out.low.b)
          have c0 := HK.out.cell 0
          have c1 := HK.out.cell 1
          clear HS
          obtain ⟨hcc, hce⟩ := HCC.out
          have HST := Lib.hid (satHard_in H P hH1 hH4 hP5 HCL.out (c := d) (by omega))
          rw [← hce] at HST
          clear hce hcc
          go_wp2_with fail
          refine HST.out.mono ?_
          clear HST
          rintro e w2 ⟨hb, ⟨rfl, _⟩ | ⟨g, L, rfl, _, _, _, hsat, _⟩⟩
          rotate_left
          · rw [HPE.out] at hsat
            exact (hard_no _ hsat).elim
          replace HL2 := Lib.hid (HL2.out.step hb)
          clear hb c0 c1
          go_wp2_with fail
          go_ret
          exact ⟨rfl, HL2.out.b⟩

theorem satHard_any (n : Int) (one : Bool) (w : World) (hn : 0 ≤ n ∧ n ≤ 255) :
    Calls Try.prog 7 #[.int .u8 n, .bool one] w (Ret w (.bool true)) := by
  cases one
  · exact satHard_yes n w hn
  · exact satHard_no n w hn
end Go.Proofs.Ytbkmgblijncjhaa
