/- Layer 15, the document's: Can. Layer 15: told. -/
import Derived.Test.YtbkmgblijncjhaaG3
import Derived.Test.YtbkmgblijncjhaaG1
import Derived.Test.YtbkmgblijncjhaaKM
import Derived.Test.YtbkmgblijncjhaaK6
set_option linter.unusedVariables false
set_option linter.unusedSimpArgs false
namespace Go.Proofs.Ytbkmgblijncjhaa
open Go.RowKit Go.Maps

/-- Whether some model of few variables makes clauses, and literals, so. -/
def canC (n : Nat) (cs : List (List Int)) (l : List Int) : Bool := (List.range (2 ^ n)).any (fun k => soC n cs (bitsG k n) && l.all (soX (bitsG k n)))

set_option maxRecDepth 100000 in
set_option maxHeartbeats 4000000 in
theorem can_any (n : Nat) (hn : n ≤ 9) (cs : List (List Int)) (A : Option Addr) (c : Nat) (l : List Int) (B : Option Addr) (d : Nat) (w : World) (hl : cs.length ≤ 140737488355328) (hls : ∀ l ∈ cs, l.length ≤ 140737488355328) (hll : l.length ≤ 140737488355328) (hr : rightC n cs = true) (hx : ∀ x ∈ l, x ≠ 0 ∧ x ≤ (n : Int) ∧ -(n : Int) ≤ x) (hp : Cls w w.heap.size A cs) (hq : Vals w w.heap.size B (i64s l)) :
    Calls Try.prog 30 #[.agg #[.int .i64 (n : Int), .slice A cs.length c], .slice B l.length d] w (Ret w (.bool (canC n cs l))) := by
  have hnot := @not_run Try.prog
  have HK := Lib.hid (BlkF.new w 24 #[.int .i64 (n : Int), .slice A cs.length c])
  have HL := Lib.hid ((Low.refl w).step (stepA w (.cells #[.int .i64 (n : Int), .slice A cs.length c] 24)))
  have HQ := Lib.hid hq
  have HP := Lib.hid hp
  have HLS := Lib.hid hls
  have HX := Lib.hid hx
  have HR := Lib.hid hr
  have HWR : Hid (wrap64 ((2 : Int) ^ n) = 2 ^ n) := by
    have hpw : (2 : Nat) ^ n ≤ 2 ^ 9 := Nat.pow_le_pow_right (by omega) hn
    show _ = _
    have e : ((2 : Int) ^ n) = ((2 ^ n : Nat) : Int) := by simp
    rw [e]
    generalize (2 : Nat) ^ n = p at hpw
    exact IntWalk.wrap64_in _ (by omega)
  clear hp hq hls hx hr
  go_enter Try.func30, Try.ntmps30
  go_wp2_with fail
  go_loopw [5] (fun s wr => ∃ k : Nat, k ≤ 2 ^ n ∧ s = .int .i64 k ∧ Hid (∀ i, i < k → (soC n cs (bitsG i n) && l.all (soX (bitsG i n))) = false) ∧ BlkF wr w.heap.size 24 #[.int .i64 (n : Int), .slice A cs.length c] ∧ Low w wr) (fun s _ => 2 ^ n - (intOf s).toNat)
  case atStart => exact ⟨0, Nat.zero_le _, rfl, fun i hi => by omega, HK.out, HL.out⟩
  case round =>
    obtain ⟨k, hk, rfl, hall, hkr, hlr⟩ := hrel
    have HKR := Lib.hid hkr
    have HLR := Lib.hid hlr
    have c0 := HKR.out.cell 0
    have hs := HLR.out.size
    clear hkr hlr HK HL
    have hpw : (2 : Nat) ^ n ≤ 2 ^ 9 := Nat.pow_le_pow_right (by omega) hn
    have hwr : wrap64 ((2 : Int) ^ n) = 2 ^ n := HWR.out
    have hcast : ((2 ^ n : Nat) : Int) = (2 : Int) ^ n := by simp
    by_cases hlt : k < 2 ^ n
    · have hlt' : (k : Int) < (2 : Int) ^ n := by omega
      have HLT := Lib.hid hlt
      clear hcast hlt
      go_wp2_with fail
      clear c0 hwr hlt'
      obtain ⟨wo, rfl⟩ : ∃ wo : World, wo = wr := ⟨_, rfl⟩
      go_loopw [6, 7] (fun v i wr => ∃ (j : Nat) (A' : Option Addr) (c' : Nat), j ≤ n ∧ v = .slice A' j c' ∧ i = .int .i64 j ∧ OwnF wr wo.heap.size 4 1 (.slice A' j c') j (bools (bitsG k j)) ∧ BlkF wr w.heap.size 24 #[.int .i64 (n : Int), .slice A cs.length c] ∧ Low wo wr) (fun _ i _ => n - (intOf i).toNat)
      case atStart => exact ⟨0, none, 0, Nat.zero_le _, rfl, rfl, ⟨World.ownsRow_nil _ _ _ _⟩, HKR.out, Low.refl _⟩
      case round =>
        obtain ⟨j, A', c', hj, rfl, rfl, hown, hki, hlow⟩ := hrel
        have HO := Lib.hid hown
        have HKI := Lib.hid hki
        have HLI := Lib.hid hlow
        obtain ⟨i0, hi0, hz0, hz1, hz2⟩ := info_parts boolInfo15
        have hs2 := HLI.out.size
        have c0 := HKI.out.cell 0
        clear hown hki hlow
        by_cases hjl : j < n
        · have hjl' : (j : Int) < (n : Int) := by omega
          have hdn : 0 ≤ (k : Int) / 2 ^ j := Int.ediv_nonneg (by omega) (Int.le_of_lt (Int.pow_pos (by omega)))
          have hdl : (k : Int) / 2 ^ j ≤ k := Int.ediv_le_self _ (by omega)
          have hsh : (k : Int) >>> j = k / 2 ^ j := Int.shiftRight_eq_div_pow _ j
          have htm : Int.tmod ((k : Int) / 2 ^ j) 2 = k / 2 ^ j % 2 := Int.tmod_eq_emod_of_nonneg hdn
          have HE : Hid (((k : Int) / 2 ^ j % 2 == 1) = decide ((k : Int) / 2 ^ j % 2 = 1)) := rfl
          go_wp2_with (first | (at_builtin; refine wpList_append_vals _ rfl (.tmp 21) (.tmp 27) _ rfl wo.heap.size 4 i0 _ 1 1 Try.underlying27 hi0 hz0 hz1 hz2 rfl (by omega) (.slice A' j c') j (bools (bitsG k j)) rfl (HO.out.p.alloc _) _ _ 1 1 [.bool ((k : Int) / 2 ^ j % 2 == 1)] rfl rfl (vals_new wr [.bool ((k : Int) / 2 ^ j % 2 == 1)] 4) (bools_one [_]) (by unfold maxLen; omega) (by omega) (by simp; omega) ?_; intro v5 w5 hown5 hg5; have HO5 := Lib.hid hown5; have HL5 := Lib.hid ((HLI.out.step (stepA wr (.cells #[.bool ((k : Int) / 2 ^ j % 2 == 1)] 4))).grown hg5 (own_block HO.out.p)); have HK5 := Lib.hid ((HKI.out.step (stepA wr (.cells #[.bool ((k : Int) / 2 ^ j % 2 == 1)] 4))).p.by_ hg5 (own_ne (HO.out.p.alloc _) (HKI.out.step (stepA wr (.cells #[.bool ((k : Int) / 2 ^ j % 2 == 1)] 4))).p (by decide))); clear hown5 hg5))
          go_roundw
          case rel =>
            obtain ⟨A6, c6, hv6, _⟩ := own_form HO5.out
            subst hv6
            refine ⟨j + 1, A6, c6, by omega, rfl, by go_num, ⟨?_⟩, ⟨HK5.out⟩, HL5.out⟩
            rw [bitsG_succ, bools_snoc]
            exact HO5.out
          case measure => simp [intOf]; omega
        · obtain rfl : j = n := by omega
          have hjl' : ¬ ((j : Int) < (j : Int)) := by omega
          have hle : (bitsG k j).length = j := bitsG_length k j
          have HM : Hid (ValsF wr A' (bools (bitsG k j))) := Lib.hid ⟨Vals.of_own HO.out.p⟩
          have HLW := Lib.hid (HLR.out.step HLI.out.b)
          have HML := Lib.hid (⟨hle, own_cap HO.out.p⟩ : (bitsG k j).length = j ∧ j ≤ c')
          have HNE : Hid (∀ y, (soC j cs (bitsG k j)) = y → (l.all (soX (bitsG k j))) = false ∨ y = false → ∀ i, i < k + 1 → (soC j cs (bitsG i j) && l.all (soX (bitsG i j))) = false) := Lib.hid fun y hy h i hi => by
            rcases Nat.lt_or_ge i k with h2 | h2
            · exact hall.out i h2
            · obtain rfl : i = k := by omega
              rcases h with h | h
              · rw [h, Bool.and_false]
              · rw [hy, h, Bool.false_and]
          have HYE : Hid (soC j cs (bitsG k j) = true → l.all (soX (bitsG k j)) = true → canC j cs l = true) := Lib.hid fun h1 h2 => by
            unfold canC
            rw [List.any_eq_true]
            exact ⟨k, List.mem_range.2 HLT.out, by rw [h1, h2]; rfl⟩
          generalize bitsG k j = m at HM HML HNE HYE
          obtain ⟨hml, hcm⟩ := HML.out
          have hk5 : k < 512 := Nat.lt_of_lt_of_le HLT.out hpw
          have c1 := HKI.out.cell 1
          clear HO HLI hle
          subst hml
          go_wp2_with fail
          refine (rcso_any _ cs m A A' c c' _ hl HLS.out (by omega) (HP.out.after (by first | exact HLW.out.b | exact HLW.out.b.drew)) (by first | exact HM.out.p | exact HM.out.p.after (stepD1 _))).mono ?_
          rintro e w2 ⟨rfl, hb2⟩
          replace HLW := Lib.hid (HLW.out.step hb2); replace HKI := Lib.hid (HKI.out.step hb2); replace HM := Lib.hid (HM.out.step hb2)
          clear hb2 c0 c1
          cases hso : soC m.length cs m
          · have HN := Lib.hid (HNE.out _ hso (Or.inr rfl))
            clear hso HNE HYE
            go_wp2_with fail
            go_roundw
            case rel => exact ⟨k + 1, HLT.out, by go_num, HN.out, HKI.out, HLW.out⟩
            case measure => have h9 := HLT.out; simp [intOf]; omega
          · have HSO := Lib.hid hso
            clear hso
            go_wp2_with fail
            refine (has_any m l A' B c' d _ (by omega) hll HX.out HM.out.p (HQ.out.after HLW.out.b)).mono ?_
            rintro e w3 ⟨rfl, hb3⟩
            replace HLW := Lib.hid (HLW.out.step hb3); replace HKI := Lib.hid (HKI.out.step hb3); replace HM := Lib.hid (HM.out.step hb3)
            clear hb3
            cases hha : l.all (soX m)
            · have HN := Lib.hid (HNE.out _ HSO.out (Or.inl hha))
              clear hha HNE HYE
              go_wp2_with fail
              go_roundw
              case rel => exact ⟨k + 1, HLT.out, by go_num, HN.out, HKI.out, HLW.out⟩
              case measure => have h9 := HLT.out; simp [intOf]; omega
            · have HY := Lib.hid (HYE.out HSO.out hha)
              clear hha HNE HYE
              go_wp2_with fail
              go_ret
              exact ⟨by rw [HY.out]; rfl, HLW.out.b⟩
    · have hlt' : ¬ ((k : Int) < (2 : Int) ^ n) := by omega
      have hF : canC n cs l = false := by
        unfold canC
        rw [List.any_eq_false]
        intro i hi
        rw [List.mem_range] at hi
        simpa using hall.out i (by omega)
      have HF := Lib.hid hF
      clear hF hcast
      go_wp2_with fail
      go_ret
      exact ⟨by rw [HF.out]; rfl, HLR.out.b⟩
end Go.Proofs.Ytbkmgblijncjhaa

set_option linter.unusedVariables false
set_option linter.unusedSimpArgs false
namespace Go.Proofs.Ytbkmgblijncjhaa
open Go.RowKit Go.Maps

theorem litOn_soX (L : List Bool) {x : Int} (hx : x ≠ 0) : litOn (mL L) x = soX L x := by
  unfold litOn soX mL
  rcases Int.lt_or_gt_of_ne hx with h | h
  · rw [if_pos h, if_neg (by omega), if_pos h, List.getD_eq_getElem?_getD, show x.natAbs - 1 = (-x - 1).toNat by omega]
  · rw [if_neg (by omega), if_pos h, List.getD_eq_getElem?_getD, show x.natAbs - 1 = (x - 1).toNat by omega]
theorem satF_soC {n : Nat} {cs : List (List Int)} {L : List Bool} (hr : rightC n cs = true) (hL : L.length = n) : soC n cs L = true ↔ SatF (mL L) cs := by
  subst hL
  have hx := (rightC_iff.1 hr).2.2.2
  unfold soC
  rw [hr, decide_eq_true rfl, Bool.true_and, Bool.true_and, Bool.not_eq_true', List.any_eq_false]
  constructor
  · intro h c hc
    have := h c hc
    rw [Bool.not_eq_true, Bool.not_eq_false', List.any_eq_true] at this
    obtain ⟨x, h1, h2⟩ := this
    exact ⟨x, h1, by rw [litOn_soX L (hx c hc x h1).1]; exact h2⟩
  · intro h c hc
    rw [Bool.not_eq_true, Bool.not_eq_false', List.any_eq_true]
    obtain ⟨x, h1, h2⟩ := h c hc
    exact ⟨x, h1, by rw [← litOn_soX L (hx c hc x h1).1]; exact h2⟩
theorem allOn_soX {n : Nat} {l : List Int} {L : List Bool} (hx : ∀ x ∈ l, x ≠ 0 ∧ x ≤ (n : Int) ∧ -(n : Int) ≤ x) : l.all (soX L) = true ↔ ∀ a ∈ l, litOn (mL L) a = true := by
  rw [List.all_eq_true]
  exact ⟨fun h a ha => by rw [litOn_soX L (hx a ha).1]; exact h a ha, fun h a ha => by rw [← litOn_soX L (hx a ha).1]; exact h a ha⟩
theorem canC_no {n : Nat} {cs : List (List Int)} {l : List Int} (hr : rightC n cs = true) (hx : ∀ x ∈ l, x ≠ 0 ∧ x ≤ (n : Int) ∧ -(n : Int) ≤ x) (h : ∀ m, SatF m cs → (∀ a ∈ l, litOn m a = true) → False) : canC n cs l = false := by
  cases e : canC n cs l with
  | false => rfl
  | true =>
    unfold canC at e
    rw [List.any_eq_true] at e
    obtain ⟨k, _, hk⟩ := e
    rw [Bool.and_eq_true] at hk
    exact (h _ ((satF_soC hr (bitsG_length _ _)).1 hk.1) ((allOn_soX hx).1 hk.2)).elim
theorem mayC_parts {v : Int} {cs : List (List Int)} {l : List Int} (h : mayC v cs l = true) : rightC v cs = true ∧ l.any (oddX v) = false ∧ ∀ x ∈ l, x ≠ 0 ∧ x ≤ v ∧ -v ≤ x := by
  unfold mayC at h
  rw [Bool.and_eq_true, Bool.not_eq_true'] at h
  exact ⟨h.1, h.2, fun x hx => oddX_no.1 (by simpa using List.any_eq_false.1 h.2 x hx)⟩

set_option maxRecDepth 100000 in
set_option maxHeartbeats 4000000 in
theorem told_no (v : Int) (cs : List (List Int)) (A : Option Addr) (c : Nat) (l : List Int) (B : Option Addr) (d : Nat) (w : World) (hl : cs.length ≤ 140737488355328) (hls : ∀ l ∈ cs, l.length ≤ 140737488355328) (hll : l.length ≤ 140737488355328) (hp : Cls w w.heap.size A cs) (hq : Vals w w.heap.size B (i64s l)) (hm : mayC v cs l = false) :
    Calls Try.prog 12 #[.agg #[.int .i64 v, .slice A cs.length c], .slice B l.length d, .slice none 0 0, .bool false, .int .i64 1] w (Ret w (.bool true)) := by
  have hnot := @not_run Try.prog
  have HL := Lib.hid ((Low.refl w).step (stepA w (.cells #[.int .i64 v, .slice A cs.length c] 24)))
  have HK := Lib.hid (BlkF.new w 24 #[.int .i64 v, .slice A cs.length c])
  have HM := Lib.hid (may_any v cs A c l B d _ hl hls hll (hp.after HL.out.b) (hq.after HL.out.b))
  have c0 := HK.out.cell 0
  have c1 := HK.out.cell 1
  rw [hm] at HM
  clear hp hq hls hm HK
  go_enter Try.func12, Try.ntmps12
  go_wp2_with fail
  refine HM.out.mono ?_
  rintro e w2 ⟨rfl, hb⟩
  replace HL := Lib.hid (HL.out.step hb)
  clear hb HM c0 c1
  go_wp2_with fail
  go_ret
  exact ⟨rfl, HL.out.b⟩

set_option maxRecDepth 100000 in
set_option maxHeartbeats 4000000 in
theorem told_is (n : Nat) (cs : List (List Int)) (A : Option Addr) (c : Nat) (l : List Int) (B : Option Addr) (d : Nat) (L : List Bool) (g : Option Addr) (w : World) (hl : cs.length ≤ 140737488355328) (hls : ∀ l ∈ cs, l.length ≤ 140737488355328) (hll : l.length ≤ 140737488355328) (hp : Cls w w.heap.size A cs) (hq : Vals w w.heap.size B (i64s l)) (hm : mayC n cs l = true) (hL : L.length = n) (hv : Vals w w.heap.size g (bools L)) (h1 : SatF (mL L) cs) (h2 : ∀ a ∈ l, litOn (mL L) a = true) :
    Calls Try.prog 12 #[.agg #[.int .i64 n, .slice A cs.length c], .slice B l.length d, .slice g n n, .bool true, .int .i64 0] w (Ret w (.bool true)) := by
  have hnot := @not_run Try.prog
  obtain ⟨hr, ho, hx⟩ := mayC_parts hm
  have HSO := Lib.hid ((satF_soC hr hL).2 h1)
  have HHA := Lib.hid ((allOn_soX hx).2 h2)
  have HL := Lib.hid ((Low.refl w).step (stepA w (.cells #[.int .i64 n, .slice A cs.length c] 24)))
  have HK := Lib.hid (BlkF.new w 24 #[.int .i64 n, .slice A cs.length c])
  have HP := Lib.hid hp
  have HQ := Lib.hid hq
  have HV := Lib.hid hv
  have HLS := Lib.hid hls
  have HM := Lib.hid hm
  have n1 := (rightC_iff.1 hr).2.1
  clear hp hq hv hls hm h1 h2 hr ho
  subst hL
  have HX := Lib.hid hx
  clear hx
  have c0 := HK.out.cell 0
  have c1 := HK.out.cell 1
  go_enter Try.func12, Try.ntmps12
  go_wp2_with fail
  refine (may_any _ cs A c l B d _ hl HLS.out hll (HP.out.after HL.out.b) (HQ.out.after HL.out.b)).mono ?_
  rw [HM.out]
  rintro e w2 ⟨rfl, hb⟩
  replace HL := Lib.hid (HL.out.step hb); replace HK := Lib.hid (HK.out.step hb)
  replace c0 := HK.out.cell 0
  replace c1 := HK.out.cell 1
  clear hb HM
  go_wp2_with fail
  refine (rcso_any _ cs L A g c L.length _ hl HLS.out (by omega) (HP.out.after HL.out.b) (HV.out.after HL.out.b)).mono ?_
  rw [HSO.out]
  rintro e w3 ⟨rfl, hb⟩
  replace HL := Lib.hid (HL.out.step hb); replace HK := Lib.hid (HK.out.step hb)
  clear hb c0 c1
  go_wp2_with fail
  refine (has_any L l g B L.length d _ (by omega) hll HX.out (HV.out.after HL.out.b) (HQ.out.after HL.out.b)).mono ?_
  rw [HHA.out]
  rintro e w4 ⟨rfl, hb⟩
  replace HL := Lib.hid (HL.out.step hb)
  clear hb
  go_wp2_with fail
  go_ret
  exact ⟨rfl, HL.out.b⟩

set_option maxRecDepth 100000 in
set_option maxHeartbeats 4000000 in
theorem told_none (n : Nat) (hn : n ≤ 9) (cs : List (List Int)) (A : Option Addr) (c : Nat) (l : List Int) (B : Option Addr) (d : Nat) (w : World) (hl : cs.length ≤ 140737488355328) (hls : ∀ l ∈ cs, l.length ≤ 140737488355328) (hll : l.length ≤ 140737488355328) (hp : Cls w w.heap.size A cs) (hq : Vals w w.heap.size B (i64s l)) (hm : mayC n cs l = true) (hno : ∀ m, SatF m cs → (∀ a ∈ l, litOn m a = true) → False) :
    Calls Try.prog 12 #[.agg #[.int .i64 n, .slice A cs.length c], .slice B l.length d, .slice none 0 0, .bool false, .int .i64 0] w (Ret w (.bool true)) := by
  have hnot := @not_run Try.prog
  obtain ⟨hr, ho, hx⟩ := mayC_parts hm
  have HCN := Lib.hid (canC_no hr hx hno)
  have HL := Lib.hid ((Low.refl w).step (stepA w (.cells #[.int .i64 n, .slice A cs.length c] 24)))
  have HK := Lib.hid (BlkF.new w 24 #[.int .i64 n, .slice A cs.length c])
  have HP := Lib.hid hp
  have HQ := Lib.hid hq
  have HLS := Lib.hid hls
  have HM := Lib.hid hm
  have HR := Lib.hid hr
  have HX := Lib.hid hx
  have hn9 : ¬ (9 : Int) < (n : Int) := by omega
  clear hp hq hls hm hr ho hno hx
  have c0 := HK.out.cell 0
  have c1 := HK.out.cell 1
  go_enter Try.func12, Try.ntmps12
  go_wp2_with fail
  refine (may_any _ cs A c l B d _ hl HLS.out hll (HP.out.after HL.out.b) (HQ.out.after HL.out.b)).mono ?_
  rw [HM.out]
  rintro e w2 ⟨rfl, hb⟩
  replace HL := Lib.hid (HL.out.step hb); replace HK := Lib.hid (HK.out.step hb)
  replace c0 := HK.out.cell 0
  replace c1 := HK.out.cell 1
  clear hb HM
  go_wp2_with fail
  refine (can_any n hn cs A c l B d _ hl HLS.out hll HR.out HX.out (HP.out.after (by first | exact HL.out.b | exact HL.out.b.drew)) (HQ.out.after (by first | exact HL.out.b | exact HL.out.b.drew))).mono ?_
  rw [HCN.out]
  rintro e w3 ⟨rfl, hb⟩
  replace HL := Lib.hid (HL.out.step hb)
  clear hb c0 c1
  go_wp2_with fail
  go_ret
  exact ⟨rfl, HL.out.b⟩
end Go.Proofs.Ytbkmgblijncjhaa
