/- Layer 3, the document's Copy. Layer 3: Fix, and the document's. Layer 3: awake. Layer 3's 'same': all that is told of literals is the document's. Layer 3's laws, plain data. -/
import Derived.Test.YtbdhkagcbncefaaG5
set_option linter.unusedVariables false
set_option linter.unusedSimpArgs false
namespace Go.Proofs.Ytbdhkagcbncefaa
open Go.RowKit Go.Maps

theorem CpSt.grown {w : World} {Q : Nat → Prop} {bm : Nat} {fr : Gr} {A2 : Option Addr} {c2 : Nat} {ms : List Bool} {t : Gr} {A' : Option Addr} {c' : Nat} {wr wr' : World} (h : CpSt w Q bm fr A2 c2 ms t A' c' wr) {row : Option Nat} (hg : wr.grownBy wr' row) (hr : ∀ k, row = some k → w.heap.size + 3 ≤ k ∧ k ≠ bm ∧ ¬ Q k) : CpSt w Q bm fr A2 c2 ms t A' c' wr' :=
  ⟨h.low.grown hg h.low.size (fun k hk => by have := (hr k hk).1; omega), Nat.le_trans h.size hg.size, h.bt.by_ hg (fun k hk => by have := (hr k hk).1; omega), h.bf.by_ hg (fun k hk => by have := (hr k hk).1; omega), h.br.by_ hg (fun k hk => by have := (hr k hk).1; omega),
    h.bm.by_ hg (fun k hk => (hr k hk).2.1), h.cap, h.prs.keep fun b o hb hlt => World.cell?_of_block (w := wr) (hg.block b hlt (fun e => (hr b e.symm).2.2 hb))⟩

/-- Blocks that Copy does not write: neither its boxes nor its row. -/
def QR (w : World) (v : Value) (b : Nat) : Prop := b ≠ w.heap.size ∧ b ≠ w.heap.size + 2 ∧ ∀ j, v.ownBlock = some j → b ≠ j

theorem CpSt.appended {w : World} {bm : Nat} {fr : Gr} {A2 : Option Addr} {c2 : Nat} {ms : List Bool} {t : Gr} {A' : Option Addr} {c' : Nat} {wq w5 : World} {v v5 : Value} {n : Nat} {xs : List Value} (h : CpSt w (QR w v) bm fr A2 c2 ms t A' c' wq) (ho : wq.ownsRow (w.heap.size + 3) 3 1 v n xs) (hg : wq.grownBy w5 v.ownBlock) (hat : v5.ownBlock = v.ownBlock ∨ v5.ownBlock = some wq.heap.size) : CpSt w (QR w v5) bm fr A2 c2 ms t A' c' w5 := by
  have h1 : CpSt w (fun b => QR w v b ∧ b < wq.heap.size) bm fr A2 c2 ms t A' c' wq := h.imp fun b hb hlt => ⟨hb, hlt⟩
  have h2 := h1.grown hg (fun j hj => ⟨(ho.lt j hj).1, own_ne ho h.bm (by decide) j hj, fun hq => hq.1.2.2 j hj rfl⟩)
  refine h2.imp fun b hb _ => ⟨hb.1.1, hb.1.2.1, fun j hj => ?_⟩
  rcases hat with e | e
  · rw [e] at hj
    exact hb.1.2.2 j hj
  · rw [e] at hj
    cases hj
    have := hb.2
    omega

set_option maxRecDepth 100000 in
set_option maxHeartbeats 4000000 in
theorem rcopy_any (to fr : Gr) (l : Int) (by_ : List Int) (A A2 A3 : Option Addr) (c c2 c3 : Nat) (w : World) (hto : GOk to) (hfr : GOk fr) (hl : l ≤ 9223372036854775807) (hc : to.as.length ≤ c) (hpt : Prs w w.heap.size A to.as) (hpf : Prs w w.heap.size A2 fr.as)
    (hby : ∀ x ∈ by_, x ≤ 9223372036854775807) (hbl : by_.length ≤ 140737488355328) (hv : Vals w w.heap.size A3 (i64s by_)) :
    Calls Try.prog 88 #[.agg #[.int .i64 to.n, .slice A to.as.length c], .agg #[.int .i64 fr.n, .slice A2 fr.as.length c2], .int .i64 l, .slice A3 by_.length c3] w (RetP w (copyG to fr l by_)) := by
  have hnot := @not_run Try.prog
  have htl : to.as.length ≤ 8796093022208 := hto.2.1
  have hfl : fr.as.length ≤ 8796093022208 := hfr.2.1
  have HPT := Lib.hid hpt
  have HPF := Lib.hid hpf
  have HBY := Lib.hid hby
  have HV := Lib.hid hv
  have HTO := Lib.hid hto
  have HFR := Lib.hid hfr
  have H0 := Lib.hid (Cp0.begin_ (w := w) (to := to) (A := A) (c := c) (fr := fr) (A2 := A2) (c2 := c2))
  have c0 := H0.out.bt.cell 0
  have c1 := H0.out.bt.cell 1
  clear hto hfr hpt hpf hby hv
  go_enter Try.func88, Try.ntmps88
  go_wp2_with fail
  refine (rright_any to A c _ HTO.out (HPT.out.after H0.out.low)).mono ?_
  rintro e w1 ⟨rfl, hb⟩
  have H1 := Lib.hid (H0.out.step hb)
  clear hb H0 c0 c1
  cases hr : rightB to
  · have HE : Hid (copyG to fr l by_ = (noG, 0, 1)) := copyG_no (by unfold copyOk; rw [hr]; rfl)
    clear hr
    have d0 := H1.out.br.cell 0
    have d1 := H1.out.br.cell 1
    have f0 := H1.out.br.frozen 0
    have f1 := H1.out.br.frozen 1
    go_wp2_with fail
    refine bodyPost_ret (v := .tuple #[.agg #[.int .i64 0, .slice none 0 0], .int .i64 0, .int .i64 1]) (by simp [results, Try.results88, go_sem, d0, d1]) rfl ?_
    rw [HE.out]
    exact ⟨none, 0, rfl, Nat.le_refl _, Prs.nil, (H1.out.low.setCell (p := ⟨w.heap.size + 2, 0, none⟩) (by simp) _).setCell (p := ⟨w.heap.size + 2, 1, none⟩) (by simp) _⟩
  · have HR := Lib.hid hr
    have c0 := H1.out.bf.cell 0
    have c1 := H1.out.bf.cell 1
    clear hr
    go_wp2_with fail
    refine (rright_any fr A2 c2 _ HFR.out (HPF.out.after H1.out.low)).mono ?_
    rintro e w2 ⟨rfl, hb⟩
    have H2 := Lib.hid (H1.out.step hb)
    clear hb H1 c0 c1
    cases ht : rightB fr
    · have HE : Hid (copyG to fr l by_ = (noG, 0, 1)) := copyG_no (by unfold copyOk; rw [ht]; simp)
      clear ht
      have d0 := H2.out.br.cell 0
      have d1 := H2.out.br.cell 1
      have f0 := H2.out.br.frozen 0
      have f1 := H2.out.br.frozen 1
      go_wp2_with fail
      refine bodyPost_ret (v := .tuple #[.agg #[.int .i64 0, .slice none 0 0], .int .i64 0, .int .i64 1]) (by simp [results, Try.results88, go_sem, d0, d1]) rfl ?_
      rw [HE.out]
      exact ⟨none, 0, rfl, Nat.le_refl _, Prs.nil, (H2.out.low.setCell (p := ⟨w.heap.size + 2, 0, none⟩) (by simp) _).setCell (p := ⟨w.heap.size + 2, 1, none⟩) (by simp) _⟩
    · have HT := Lib.hid ht
      have c0 := H2.out.bf.cell 0
      have c1 := H2.out.bf.cell 1
      clear ht
      go_wp2_with fail
      refine (rlit_any fr l A2 c2 _ hfl hl).mono ?_
      rintro e w3 ⟨rfl, hb⟩
      have H3 := Lib.hid (H2.out.step hb)
      clear hb H2 c0 c1
      cases hlb : litB fr l
      · have HE : Hid (copyG to fr l by_ = (noG, 0, 1)) := copyG_no (by unfold copyOk; rw [hlb]; simp)
        clear hlb
        have d0 := H3.out.br.cell 0
        have d1 := H3.out.br.cell 1
        have f0 := H3.out.br.frozen 0
        have f1 := H3.out.br.frozen 1
        go_wp2_with fail
        refine bodyPost_ret (v := .tuple #[.agg #[.int .i64 0, .slice none 0 0], .int .i64 0, .int .i64 1]) (by simp [results, Try.results88, go_sem, d0, d1]) rfl ?_
        rw [HE.out]
        exact ⟨none, 0, rfl, Nat.le_refl _, Prs.nil, (H3.out.low.setCell (p := ⟨w.heap.size + 2, 0, none⟩) (by simp) _).setCell (p := ⟨w.heap.size + 2, 1, none⟩) (by simp) _⟩
      · have HLB := Lib.hid hlb
        have c0 := H3.out.bf.cell 0
        have c1 := H3.out.bf.cell 1
        clear hlb
        by_cases hn : (by_.length : Int) = fr.n
        · have hn' : ((by_.length : Int) != fr.n) = false := by rw [hn]; simp
          have HN := Lib.hid hn
          obtain ⟨g0, g1, g2, g3⟩ := (size_iff fr).1 (right_size HT.out)
          have hbs : by_.length ≤ 2000 := by omega
          clear hn
          go_wp2_with fail
          go_loopw [11] (fun i wr => ∃ k : Nat, k ≤ by_.length ∧ i = .int .i64 k ∧ Hid (∀ j x, j < k → by_[j]? = some x → litB to x = true) ∧ Low w3 wr) (fun i _ => by_.length - (intOf i).toNat)
          case atStart => exact ⟨0, Nat.zero_le _, rfl, fun j x h => by omega, Low.refl _⟩
          case round =>
            obtain ⟨k, hk, rfl, hall, hlow⟩ := hrel
            have H4 := Lib.hid (H3.out.step hlow.b)
            have HW := Lib.hid hlow
            have HAL := Lib.hid hall.out
            clear hall hlow c0 c1
            have c0 := H4.out.bt.cell 0
            have c1 := H4.out.bt.cell 1
            by_cases hlt : k < by_.length
            · have hlt' : (k : Int) < (by_.length : Int) := by omega
              obtain ⟨x, hxk⟩ : ∃ x, by_[k]? = some x := ⟨_, List.getElem?_eq_getElem hlt⟩
              obtain ⟨b', o', rfl, _, q1⟩ := (HV.out.after H4.out.low) k _ (i64s_at hxk)
              have hxm := HBY.out x (List.mem_of_getElem? hxk)
              have HXK := Lib.hid hxk
              clear hxk
              go_wp2_with fail
              replace H4 := Lib.hid (H4.out.step (stepD1 _)); replace HW := Lib.hid (HW.out.step (stepD1 _))
              refine wp_region_noPanic ?_
              refine wp_region_seq (fun W => W.cell? ⟨w.heap.size, 0, none⟩ = some (.int .i64 to.n) ∧ W.cell? ⟨w.heap.size, 1, none⟩ = some (.slice A to.as.length c) ∧ W.cell? ⟨b', o' + k, none⟩ = some (.int .i64 x)) [0, 1, 2, 3, 4, 5, 6] [0, 1, 2, 3, 4, 6] [] (by kernel_rfl) (by kernel_rfl) rfl (by kernel_rfl) (by kernel_rfl) (fun _ _ _ _ _ h => h) ?_ (fun hSS => ?_)
              · exact ⟨c0, c1, q1⟩
              clear hSS
              (refine wpSeq_mov rfl rfl ?_; intro o ho; simp only [List.getElem?_toArray, List.getElem?_cons_zero, List.getElem?_cons_succ, Option.some.injEq] at ho; subst ho; refine ⟨?_, Or.inl ⟨by rfl, fun W hSW => ?_⟩, ?_⟩; rotate_left; (focus (go_simp; first | done | with_reducible rfl)); try simp only [Act.put, List.setIfInBounds_toArray, List.set_cons_zero, List.set_cons_succ])
              (refine wpSeq_mov rfl rfl ?_; intro o ho; simp only [List.getElem?_toArray, List.getElem?_cons_zero, List.getElem?_cons_succ, Option.some.injEq] at ho; subst ho; refine ⟨?_, Or.inl ⟨by rfl, fun W hSW => ?_⟩, ?_⟩; rotate_left; (focus (go_simp; first | done | with_reducible rfl)); try simp only [Act.put, List.setIfInBounds_toArray, List.set_cons_zero, List.set_cons_succ])
              (refine wpSeq_mov rfl rfl ?_; intro o ho; simp only [List.getElem?_toArray, List.getElem?_cons_zero, List.getElem?_cons_succ, Option.some.injEq] at ho; subst ho; refine ⟨?_, Or.inl ⟨by rfl, fun W hSW => ?_⟩, ?_⟩; rotate_left; (focus (go_simp; first | done | with_reducible rfl)); try simp only [Act.put, List.setIfInBounds_toArray, List.set_cons_zero, List.set_cons_succ])
              (refine wpSeq_mov rfl rfl ?_; intro o ho; simp only [List.getElem?_toArray, List.getElem?_cons_zero, List.getElem?_cons_succ, Option.some.injEq] at ho; subst ho; refine ⟨?_, Or.inl ⟨by rfl, fun W hSW => ?_⟩, ?_⟩; rotate_left; (focus (go_simp; first | done | with_reducible rfl)); try simp only [Act.put, List.setIfInBounds_toArray, List.set_cons_zero, List.set_cons_succ])
              (refine wpSeq_mov rfl rfl ?_; intro o ho; simp only [List.getElem?_toArray, List.getElem?_cons_zero, List.getElem?_cons_succ, Option.some.injEq] at ho; subst ho; refine ⟨?_, Or.inl ⟨by rfl, fun W hSW => ?_⟩, ?_⟩; rotate_left; (focus (go_simp; first | done | with_reducible rfl)); try simp only [Act.put, List.setIfInBounds_toArray, List.set_cons_zero, List.set_cons_succ])
              (refine wpSeq_fix rfl rfl ?_; intro o ho; simp only [List.getElem?_toArray, List.getElem?_cons_zero, List.getElem?_cons_succ, Option.some.injEq] at ho; subst ho; intro K hK)
              go_simp
              refine (rlit_any to x A c _ htl hxm).mono ?_
              rintro e w4 ⟨rfl, hb⟩
              have HQ : Hid (w4.cell? ⟨b', o' + k, none⟩ = some (.int .i64 x)) := by
                obtain ⟨b2, o2, e2, _, q2⟩ := (HV.out.after (H4.out.step hb).low) k _ (i64s_at HXK.out)
                cases e2
                exact q2
              replace H4 := Lib.hid (H4.out.step hb); replace HW := Lib.hid (HW.out.step hb)
              clear hb q1
              (refine hK.out _ _ (fun _ => ⟨H4.out.bt.cell 0, H4.out.bt.cell 1, HQ.out⟩) ?_; clear hK K; try simp only [Act.put, List.setIfInBounds_toArray, List.set_cons_zero, List.set_cons_succ])
              (refine wpSeq_mov rfl rfl ?_; intro o ho; simp only [List.getElem?_toArray, List.getElem?_cons_zero, List.getElem?_cons_succ, Option.some.injEq] at ho; subst ho; refine ⟨?_, Or.inl ⟨by rfl, fun W hSW => ?_⟩, ?_⟩; rotate_left; (focus (go_simp; first | done | with_reducible rfl)); try simp only [Act.put, List.setIfInBounds_toArray, List.set_cons_zero, List.set_cons_succ])
              refine wpSeq_done ?_
              cases hlx : litB to x
              · have HE : Hid (copyG to fr l by_ = (noG, 0, 1)) := copyG_no (by
                  cases h : copyOk to fr l by_
                  · rfl
                  · obtain ⟨_, _, _, _, h5⟩ := copyOk_iff.1 h
                    rw [h5 x (List.mem_of_getElem? HXK.out)] at hlx
                    cases hlx)
                clear hlx
                have d0 := H4.out.br.cell 0
                have d1 := H4.out.br.cell 1
                have f0 := H4.out.br.frozen 0
                have f1 := H4.out.br.frozen 1
                go_wp2_with fail
                refine bodyPost_ret (v := .tuple #[.agg #[.int .i64 0, .slice none 0 0], .int .i64 0, .int .i64 1]) (by simp [results, Try.results88, go_sem, d0, d1]) rfl ?_
                rw [HE.out]
                exact ⟨none, 0, rfl, Nat.le_refl _, Prs.nil, (H4.out.low.setCell (p := ⟨w.heap.size + 2, 0, none⟩) (by simp) _).setCell (p := ⟨w.heap.size + 2, 1, none⟩) (by simp) _⟩
              · have HLX := Lib.hid hlx
                clear hlx
                go_wp2_with fail
                go_roundw
                case rel =>
                  refine ⟨k + 1, by omega, by go_num, fun j z hj hz => ?_, HW.out⟩
                  rcases Nat.lt_or_ge j k with h | h
                  · exact HAL.out j z h hz
                  · obtain rfl : j = k := by omega
                    rw [HXK.out] at hz
                    cases hz
                    exact HLX.out
                case measure => simp [intOf]; omega
            · have hlt' : ¬ ((k : Int) < (by_.length : Int)) := by omega
              obtain rfl : k = by_.length := by omega
              have HOK : Hid (copyOk to fr l by_ = true) := by
                refine copyOk_iff.2 ⟨HR.out, HT.out, HLB.out, HN.out, fun x hx => ?_⟩
                obtain ⟨j, hj⟩ := List.getElem?_of_mem hx
                exact HAL.out j x (List.getElem?_eq_some_iff.1 hj).1 hj
              clear c0 c1 HAL
              have c0 := H4.out.bf.cell 0
              have c1 := H4.out.bf.cell 1
              go_wp2_with fail
              refine (rbelow_k fr l A2 c2 _ HT.out HLB.out (HPF.out.after H4.out.low)).mono ?_
              rintro e w5 ⟨bm, rfl, hbm, hb⟩
              have h5 := H4.out.step hb
              have H5 := Lib.hid h5
              have hs5 : w.heap.size + 3 ≤ w5.heap.size := h5.size
              have HBM := Lib.hid hbm
              have HV5 := Lib.hid (HV.out.after (H5.out.step (stepA w5 (.cells #[.int .i64 0] 3))).low)
              have HO1 := Lib.hid (World.ownsRow_lit (base := w.heap.size + 3) (e := 3) (size := 1) w5 #[.int .i64 0] 1 hs5 (by unfold maxLen; omega) rfl)
              obtain ⟨i0, hi0, hz0, hz1, hz2⟩ := info_parts intInfo
              clear hb hbm h5 c0 c1 H4 HW
              go_wp2_with ((at_builtin; go_loud (refine wpList_append_vals _ rfl (.tmp 60) (.tmp 61) _ rfl (w.heap.size + 3) 3 i0 _ 1 8 Try.underlying26 hi0 hz0 hz1 hz2 rfl (by omega) (.slice (some ⟨w5.heap.size, 0, none⟩) 1 1) 1 [.int .i64 0] rfl HO1.out _ A3 by_.length c3 (i64s by_) rfl (by simp [i64s]) HV5.out (i64s_one by_) (by unfold maxLen; omega) (by omega) (by simp; omega) ?_); intro v6 w6 hown6 hg6; have HO6 := Lib.hid hown6; have HG6 := Lib.hid hg6; clear hown6 hg6))
              obtain ⟨I6, c6, hv6, _⟩ := own_form HO6.out
              subst hv6
              have HS6 : Hid (CpSt w (QR w (.slice I6 (1 + by_.length) c6)) bm fr A2 c2 (belowG fr l) to A c w6) := by
                have hA := H5.out.step (stepA w5 (.cells #[.int .i64 0] 3))
                have h1 : CpSt w (fun b => b < w.heap.size) bm fr A2 c2 (belowG fr l) to A c (w5.alloc (.cells #[.int .i64 0] 3)) := ⟨hA.low, hA.size, hA.bt, hA.bf, hA.br, HBM.out.alloc _, hc, (HPT.out.below hA.low).q⟩
                have hbl5 : bm < w5.heap.size := HBM.out.lt
                have h2 := h1.grown HG6.out (fun j hj => by
                  simp [Value.ownBlock] at hj
                  subst hj
                  exact ⟨hs5, by omega, by omega⟩)
                exact h2.imp fun b hb _ => ⟨by omega, by omega, fun j hj => by have := (HO6.out.lt j hj).1; omega⟩
              have e6 : ([.int .i64 0] ++ i64s by_ : List Value) = i64s (0 :: by_) := rfl
              rw [e6] at HO6
              clear HO1 HV5 HG6 H5 HBM e6
              go_loopw [13, 14] (fun v i wr => ∃ (k : Nat) (I : Option Addr) (ci : Nat) (A' : Option Addr) (c' : Nat), k ≤ fr.as.length ∧ v = .slice I (copyAt to fr l by_ k).2.1.length ci ∧ i = .int .i64 k ∧ Hid ((copyAt to fr l by_ k).2.2 = 0) ∧ CpSt w (QR w (.slice I (copyAt to fr l by_ k).2.1.length ci)) bm fr A2 c2 (belowG fr l) (copyAt to fr l by_ k).1 A' c' wr ∧ OwnF wr (w.heap.size + 3) 3 1 (.slice I (copyAt to fr l by_ k).2.1.length ci) (copyAt to fr l by_ k).2.1.length (i64s (copyAt to fr l by_ k).2.1)) (fun _ i _ => fr.as.length - (intOf i).toNat)
              case atStart =>
                have e0 : (copyAt to fr l by_ 0).2.1.length = 1 + by_.length := by show (0 :: by_).length = _; simp; omega
                refine ⟨0, I6, c6, A, c, Nat.zero_le _, by rw [e0], rfl, rfl, by rw [e0]; exact HS6.out, ⟨by rw [e0]; exact HO6.out⟩⟩
              case round =>
                obtain ⟨k, I, ci, A', c', hk, rfl, rfl, he, hst, hown⟩ := hrel
                have HE0 := Lib.hid he.out
                have HS := Lib.hid hst
                have HO := Lib.hid hown
                clear he hst hown HS6 HO6
                have HIN := Lib.hid (copyAt_inv HOK.out k hk HE0.out)
                have c0 := HS.out.bf.cell 0
                have c1 := HS.out.bf.cell 1
                by_cases hlt : k < fr.as.length
                · have hlt' : (k : Int) < (fr.as.length : Int) := by omega
                  obtain ⟨⟨p1, p2⟩, hpk⟩ : ∃ p, fr.as[k]? = some p := ⟨_, List.getElem?_eq_getElem hlt⟩
                  obtain ⟨b', o', rfl, hbs', q1, q2⟩ := (HPF.out.below HS.out.low) k _ hpk
                  obtain ⟨r1, r2, r3, r4, r5, r6⟩ := gate_lits HT.out hpk
                  simp only at r1 r2 r3 r4 r5 r6
                  have i1 : 0 ≤ fr.n + 1 + (k : Int) := by omega
                  have i2 : fr.n + 1 + (k : Int) < ((belowG fr l).length : Int) := by rw [belowG_length]; unfold Gr.vars; omega
                  obtain ⟨bit, hbit⟩ : ∃ y, (belowG fr l)[(fr.n + 1 + (k : Int)).toNat]? = some y := ⟨_, List.getElem?_eq_getElem (by omega)⟩
                  have hmk : wr.cell? ⟨bm, (fr.n + 1 + (k : Int)).toNat, none⟩ = some (.bool bit) := by
                    rw [HS.out.bm.cell, List.getElem?_toArray]
                    exact bools_get hbit
                  have HBT := Lib.hid hbit
                  have HPK := Lib.hid hpk
                  have hsl : (copyAt to fr l by_ k).2.1.length ≤ 4001 := by have := HIN.out.len; omega
                  clear hbit hpk
                  cases bit
                  · have HSN := Lib.hid (copyAt_no HPK.out HBT.out HE0.out)
                    generalize copyAt to fr l by_ k = s at HIN HS HO HSN hsl
                    go_wp2_with ((at_builtin; go_loud (refine wpList_append_own_at (o := ⟨some 121, _, _, _, _, _⟩) _ rfl (.tmp 118) (.tmp 120) _ rfl (w.heap.size + 3) 3 i0 _ 1 8 Try.underlying26 hi0 hz0 hz1 hz2 rfl (by omega) (.slice I s.2.1.length ci) s.2.1.length (i64s s.2.1) rfl (HO.out.p.alloc _) _ 1 1 [.int .i64 (0)] rfl rfl (cells_new wr [.int .i64 (0)] 3) (i64s_one [0]) (by unfold maxLen; omega) (by omega) (by simp; have := HS.out.size; omega) ?_); intro v7 w7 hown7 hg7 _ hat7; have HS7 := Lib.hid ((HS.out.step (stepA wr (.cells #[.int .i64 (0)] 3))).appended (HO.out.p.alloc _) hg7 hat7); have HO7 := Lib.hid hown7; clear hown7 hg7 hat7))
                    go_roundw
                    case rel =>
                      obtain ⟨I7, c7, hv7, _⟩ := own_form HO7.out
                      subst hv7
                      have hl7 : (copyAt to fr l by_ (k + 1)).2.1.length = s.2.1.length + 1 := by rw [HSN.out]; simp
                      refine ⟨k + 1, I7, c7, A', c', by omega, by rw [hl7], by go_num, by rw [HSN.out]; rfl, ?_, ⟨?_⟩⟩
                      · rw [hl7]
                        rw [HSN.out]
                        exact HS7.out
                      · rw [hl7]
                        rw [HSN.out, i64s_append]
                        exact HO7.out
                    case measure => simp [intOf]; omega
                  · obtain ⟨y1, hy1⟩ : ∃ y, (copyAt to fr l by_ k).2.1[(p1 / 2).toNat]? = some y := ⟨_, List.getElem?_eq_getElem (by have := HIN.out.len; omega)⟩
                    obtain ⟨y2, hy2⟩ : ∃ y, (copyAt to fr l by_ k).2.1[(p2 / 2).toNat]? = some y := ⟨_, List.getElem?_eq_getElem (by have := HIN.out.len; omega)⟩
                    have b1 := lit_small HIN.out.right (HIN.out.lit y1 (List.mem_of_getElem? hy1))
                    have b2 := lit_small HIN.out.right (HIN.out.lit y2 (List.mem_of_getElem? hy2))
                    have HLA := Lib.hid (litI_lit (l := p1) HIN.out.right HIN.out.lit)
                    have HLB := Lib.hid (litI_lit (l := p2) HIN.out.right HIN.out.lit)
                    have HE1 : Hid (bits .xor .i64 y1 (p1 % 2) = litI (copyAt to fr l by_ k).2.1 p1) := (xor_turnP y1 p1 b1.1 (by omega) r1).trans (litI_eq hy1).symm
                    have HE2 : Hid (bits .xor .i64 y2 (p2 % 2) = litI (copyAt to fr l by_ k).2.1 p2) := (xor_turnP y2 p2 b2.1 (by omega) r3).trans (litI_eq hy2).symm
                    have HYES := Lib.hid (copyAt_yes HPK.out HBT.out HE0.out)
                    have HBAD := Lib.hid (copyG_bad HOK.out HPK.out HBT.out HE0.out)
                    have hl1 : p1 / 2 < ((copyAt to fr l by_ k).2.1.length : Int) := by have := HIN.out.len; omega
                    have hl2 : p2 / 2 < ((copyAt to fr l by_ k).2.1.length : Int) := by have := HIN.out.len; omega
                    have HY1 := Lib.hid hy1
                    have HY2 := Lib.hid hy2
                    generalize copyAt to fr l by_ k = s at HIN HS HO HYES HBAD HLA HLB HE1 HE2 HY1 HY2 hl1 hl2 hsl
                    clear hy1 hy2
                    simp only at HYES HBAD
                    generalize litI s.2.1 p1 = a at HLA HE1 HYES HBAD
                    generalize litI s.2.1 p2 = b at HLB HE2 HYES HBAD
                    have a1 := lit_small HIN.out.right HLA.out
                    have b3 := lit_small HIN.out.right HLB.out
                    go_wp2_with fail
                    clear hmk
                    replace HS := Lib.hid (HS.out.step (stepD1 _)); replace HO := Lib.hid (HO.out.step (stepD1 _))
                    refine wp_region_noPanic ?_
                    refine wp_region_seq (fun W => W.cell? ⟨w.heap.size + 1, 1, none⟩ = some (.slice (some ⟨b', o', none⟩) fr.as.length c2) ∧ W.cell? ⟨b', o' + k * 2, none⟩ = some (.int .i64 p1) ∧ W.cell? ⟨b', o' + k * 2 + 1, none⟩ = some (.int .i64 p2)) [0, 1, 2, 3, 4, 5, 6, 7, 8, 9, 10, 11, 12, 13] [0, 1, 2, 3, 4, 5, 6, 7, 8, 9, 10, 11, 12, 13] [] (by kernel_rfl) (by kernel_rfl) rfl (by kernel_rfl) (by kernel_rfl) (fun _ _ _ _ _ h => h) ?_ (fun hSS => ?_)
                    · exact ⟨c1, q1, q2⟩
                    clear hSS c0 c1 q1 q2
                    (refine wpSeq_mov rfl rfl ?_; intro o ho; simp only [List.getElem?_toArray, List.getElem?_cons_zero, List.getElem?_cons_succ, Option.some.injEq] at ho; subst ho; refine ⟨?_, Or.inl ⟨by rfl, fun W hSW => ?_⟩, ?_⟩; rotate_left; (focus (go_simp; first | done | with_reducible rfl)); try simp only [Act.put, List.setIfInBounds_toArray, List.set_cons_zero, List.set_cons_succ])
                    (refine wpSeq_mov rfl rfl ?_; intro o ho; simp only [List.getElem?_toArray, List.getElem?_cons_zero, List.getElem?_cons_succ, Option.some.injEq] at ho; subst ho; refine ⟨?_, Or.inl ⟨by rfl, fun W hSW => ?_⟩, ?_⟩; rotate_left; (focus (go_simp; first | done | with_reducible rfl)); try simp only [Act.put, List.setIfInBounds_toArray, List.set_cons_zero, List.set_cons_succ])
                    (refine wpSeq_mov rfl rfl ?_; intro o ho; simp only [List.getElem?_toArray, List.getElem?_cons_zero, List.getElem?_cons_succ, Option.some.injEq] at ho; subst ho; refine ⟨?_, Or.inl ⟨by rfl, fun W hSW => ?_⟩, ?_⟩; rotate_left; (focus (go_simp; first | done | with_reducible rfl)); try simp only [Act.put, List.setIfInBounds_toArray, List.set_cons_zero, List.set_cons_succ])
                    (refine wpSeq_mov rfl rfl ?_; intro o ho; simp only [List.getElem?_toArray, List.getElem?_cons_zero, List.getElem?_cons_succ, Option.some.injEq] at ho; subst ho; refine ⟨?_, Or.inl ⟨by rfl, fun W hSW => ?_⟩, ?_⟩; rotate_left; (focus (go_simp; first | done | with_reducible rfl)); try simp only [Act.put, List.setIfInBounds_toArray, List.set_cons_zero, List.set_cons_succ])
                    (refine wpSeq_mov rfl rfl ?_; intro o ho; simp only [List.getElem?_toArray, List.getElem?_cons_zero, List.getElem?_cons_succ, Option.some.injEq] at ho; subst ho; refine ⟨?_, Or.inl ⟨by rfl, fun W hSW => ?_⟩, ?_⟩; rotate_left; (focus (go_simp; first | done | with_reducible rfl)); try simp only [Act.put, List.setIfInBounds_toArray, List.set_cons_zero, List.set_cons_succ])
                    (refine wpSeq_mov rfl rfl ?_; intro o ho; simp only [List.getElem?_toArray, List.getElem?_cons_zero, List.getElem?_cons_succ, Option.some.injEq] at ho; subst ho; refine ⟨?_, Or.inl ⟨by rfl, fun W hSW => ?_⟩, ?_⟩; rotate_left; (focus (go_simp; first | done | with_reducible rfl)); try simp only [Act.put, List.setIfInBounds_toArray, List.set_cons_zero, List.set_cons_succ])
                    (refine wpSeq_mov rfl rfl ?_; intro o ho; simp only [List.getElem?_toArray, List.getElem?_cons_zero, List.getElem?_cons_succ, Option.some.injEq] at ho; subst ho; refine ⟨?_, Or.inl ⟨by rfl, fun W hSW => ?_⟩, ?_⟩; rotate_left; (focus (go_simp; first | done | with_reducible rfl)); try simp only [Act.put, List.setIfInBounds_toArray, List.set_cons_zero, List.set_cons_succ])
                    (refine wpSeq_mov rfl rfl ?_; intro o ho; simp only [List.getElem?_toArray, List.getElem?_cons_zero, List.getElem?_cons_succ, Option.some.injEq] at ho; subst ho; refine ⟨?_, Or.inl ⟨by rfl, fun W hSW => ?_⟩, ?_⟩; rotate_left; (focus (go_simp; first | done | with_reducible rfl)); try simp only [Act.put, List.setIfInBounds_toArray, List.set_cons_zero, List.set_cons_succ])
                    (refine wpSeq_mov rfl rfl ?_; intro o ho; simp only [List.getElem?_toArray, List.getElem?_cons_zero, List.getElem?_cons_succ, Option.some.injEq] at ho; subst ho; refine ⟨?_, Or.inl ⟨by rfl, fun W hSW => ?_⟩, ?_⟩; rotate_left; (focus (go_simp; first | done | with_reducible rfl)); try simp only [Act.put, List.setIfInBounds_toArray, List.set_cons_zero, List.set_cons_succ])
                    (refine wpSeq_mov rfl rfl ?_; intro o ho; simp only [List.getElem?_toArray, List.getElem?_cons_zero, List.getElem?_cons_succ, Option.some.injEq] at ho; subst ho; refine ⟨?_, Or.inl ⟨by rfl, fun W hSW => ?_⟩, ?_⟩; rotate_left; (focus (go_simp; first | done | with_reducible rfl)); try simp only [Act.put, List.setIfInBounds_toArray, List.set_cons_zero, List.set_cons_succ])
                    (refine wpSeq_mov rfl rfl ?_; intro o ho; simp only [List.getElem?_toArray, List.getElem?_cons_zero, List.getElem?_cons_succ, Option.some.injEq] at ho; subst ho; refine ⟨?_, Or.inl ⟨by rfl, fun W hSW => ?_⟩, ?_⟩; rotate_left; (focus (go_simp; first | done | with_reducible rfl)); try simp only [Act.put, List.setIfInBounds_toArray, List.set_cons_zero, List.set_cons_succ])
                    (refine wpSeq_mov rfl rfl ?_; intro o ho; simp only [List.getElem?_toArray, List.getElem?_cons_zero, List.getElem?_cons_succ, Option.some.injEq] at ho; subst ho; refine ⟨?_, Or.inl ⟨by rfl, fun W hSW => ?_⟩, ?_⟩; rotate_left; (focus (go_simp; first | done | with_reducible rfl)); try simp only [Act.put, List.setIfInBounds_toArray, List.set_cons_zero, List.set_cons_succ])
                    (refine wpSeq_mov rfl rfl ?_; intro o ho; simp only [List.getElem?_toArray, List.getElem?_cons_zero, List.getElem?_cons_succ, Option.some.injEq] at ho; subst ho; refine ⟨?_, Or.inl ⟨by rfl, fun W hSW => ?_⟩, ?_⟩; rotate_left; (focus (go_simp; first | done | with_reducible rfl)); try simp only [Act.put, List.setIfInBounds_toArray, List.set_cons_zero, List.set_cons_succ])
                    (refine wpSeq_mov rfl rfl ?_; intro o ho; simp only [List.getElem?_toArray, List.getElem?_cons_zero, List.getElem?_cons_succ, Option.some.injEq] at ho; subst ho; refine ⟨?_, Or.inl ⟨by rfl, fun W hSW => ?_⟩, ?_⟩; rotate_left; (focus (go_simp; first | done | with_reducible rfl)); try simp only [Act.put, List.setIfInBounds_toArray, List.set_cons_zero, List.set_cons_succ])
                    refine wpSeq_done ?_
                    go_wp2_with fail
                    replace HS := Lib.hid (HS.out.step (stepD1 _)); replace HO := Lib.hid (HO.out.step (stepD1 _))
                    obtain ⟨gI, oI, eI, _, q1⟩ := Vals.of_own HO.out.p _ _ (i64s_at HY1.out)
                    subst eI
                    obtain ⟨gI2, oI2, eI, _, q2⟩ := Vals.of_own HO.out.p _ _ (i64s_at HY2.out)
                    cases eI
                    have hw1 : IntKind.i64.wrap (Int.tdiv p1 2) = p1 / 2 := by
                      rw [Int.tdiv_eq_ediv_of_nonneg (by omega)]
                      exact IntWalk.i64_in _ (by omega)
                    have hw2 : IntKind.i64.wrap (Int.tdiv p2 2) = p2 / 2 := by
                      rw [Int.tdiv_eq_ediv_of_nonneg (by omega)]
                      exact IntWalk.i64_in _ (by omega)
                    have hm1 : Int.tmod p1 2 = p1 % 2 := Int.tmod_eq_emod_of_nonneg (by omega)
                    have hm2 : Int.tmod p2 2 = p2 % 2 := Int.tmod_eq_emod_of_nonneg (by omega)
                    have j1 : 0 ≤ p1 / 2 := by omega
                    have j2 : 0 ≤ p2 / 2 := by omega
                    refine wp_region_noPanic ?_
                    refine wp_region_tree (fun W => W.cell? ⟨w.heap.size, 0, none⟩ = some (.int .i64 s.1.n) ∧ W.cell? ⟨w.heap.size, 1, none⟩ = some (.slice A' s.1.as.length c') ∧ W.cell? ⟨gI, oI + (p1 / 2).toNat, none⟩ = some (.int .i64 y1) ∧ W.cell? ⟨gI, oI + (p2 / 2).toNat, none⟩ = some (.int .i64 y2)) (fun _ => True) (Ord.ofList [0, 1, 2, 3, 4, 5, 6, 7, 8, 9, 10, 11, 12, 13, 14, 15, 16] (.fork 17 (Ord.ofList [18, 19, 20, 21, 22, 23, 24, 25] .done) 22 (Ord.ofList [17, 18, 19, 20, 21, 23, 24, 25] .done))) [0, 1, 2, 3, 4, 5, 6, 7, 8, 9, 10, 11, 12, 13, 14, 15, 16, 18, 19, 20, 21, 24, 25] [] [] [] (by kernel_rfl) (by kernel_rfl) rfl (by kernel_rfl) (by kernel_rfl) (by kernel_rfl) (fun _ _ _ _ _ h => h) ?_ (fun hSS hRR => ?_)
                    · exact ⟨⟨HS.out.bt.cell 0, HS.out.bt.cell 1, q1, q2⟩, trivial⟩
                    clear hSS hRR
                    (refine wpTree_mov rfl rfl ?_; intro o ho; simp only [List.getElem?_toArray, List.getElem?_cons_zero, List.getElem?_cons_succ, Option.some.injEq] at ho; subst ho; refine ⟨?_, Or.inl ⟨by rfl, fun W hSW => ?_⟩, ?_⟩; rotate_left; (focus (go_simp; first | done | with_reducible rfl)); try simp only [Act.put, List.setIfInBounds_toArray, List.set_cons_zero, List.set_cons_succ])
                    (refine wpTree_mov rfl rfl ?_; intro o ho; simp only [List.getElem?_toArray, List.getElem?_cons_zero, List.getElem?_cons_succ, Option.some.injEq] at ho; subst ho; refine ⟨?_, Or.inl ⟨by rfl, fun W hSW => ?_⟩, ?_⟩; rotate_left; (focus (go_simp; first | done | with_reducible rfl)); try simp only [Act.put, List.setIfInBounds_toArray, List.set_cons_zero, List.set_cons_succ])
                    (refine wpTree_mov rfl rfl ?_; intro o ho; simp only [List.getElem?_toArray, List.getElem?_cons_zero, List.getElem?_cons_succ, Option.some.injEq] at ho; subst ho; refine ⟨?_, Or.inl ⟨by rfl, fun W hSW => ?_⟩, ?_⟩; rotate_left; (focus (go_simp; first | done | with_reducible rfl)); try simp only [Act.put, List.setIfInBounds_toArray, List.set_cons_zero, List.set_cons_succ])
                    (refine wpTree_mov rfl rfl ?_; intro o ho; simp only [List.getElem?_toArray, List.getElem?_cons_zero, List.getElem?_cons_succ, Option.some.injEq] at ho; subst ho; refine ⟨?_, Or.inl ⟨by rfl, fun W hSW => ?_⟩, ?_⟩; rotate_left; (focus (go_simp; first | done | with_reducible rfl)); try simp only [Act.put, List.setIfInBounds_toArray, List.set_cons_zero, List.set_cons_succ])
                    (refine wpTree_mov rfl rfl ?_; intro o ho; simp only [List.getElem?_toArray, List.getElem?_cons_zero, List.getElem?_cons_succ, Option.some.injEq] at ho; subst ho; refine ⟨?_, Or.inl ⟨by rfl, fun W hSW => ?_⟩, ?_⟩; rotate_left; (focus (go_simp; first | done | with_reducible rfl)); try simp only [Act.put, List.setIfInBounds_toArray, List.set_cons_zero, List.set_cons_succ])
                    (refine wpTree_mov rfl rfl ?_; intro o ho; simp only [List.getElem?_toArray, List.getElem?_cons_zero, List.getElem?_cons_succ, Option.some.injEq] at ho; subst ho; refine ⟨?_, Or.inl ⟨by rfl, fun W hSW => ?_⟩, ?_⟩; rotate_left; (focus (go_simp; first | done | with_reducible rfl)); try simp only [Act.put, List.setIfInBounds_toArray, List.set_cons_zero, List.set_cons_succ])
                    (refine wpTree_mov rfl rfl ?_; intro o ho; simp only [List.getElem?_toArray, List.getElem?_cons_zero, List.getElem?_cons_succ, Option.some.injEq] at ho; subst ho; refine ⟨?_, Or.inl ⟨by rfl, fun W hSW => ?_⟩, ?_⟩; rotate_left; (focus (go_simp; first | done | with_reducible rfl)); try simp only [Act.put, List.setIfInBounds_toArray, List.set_cons_zero, List.set_cons_succ])
                    (refine wpTree_mov rfl rfl ?_; intro o ho; simp only [List.getElem?_toArray, List.getElem?_cons_zero, List.getElem?_cons_succ, Option.some.injEq] at ho; subst ho; refine ⟨?_, Or.inl ⟨by rfl, fun W hSW => ?_⟩, ?_⟩; rotate_left; (focus (go_simp; first | done | with_reducible rfl)); try simp only [Act.put, List.setIfInBounds_toArray, List.set_cons_zero, List.set_cons_succ])
                    (refine wpTree_mov rfl rfl ?_; intro o ho; simp only [List.getElem?_toArray, List.getElem?_cons_zero, List.getElem?_cons_succ, Option.some.injEq] at ho; subst ho; refine ⟨?_, Or.inl ⟨by rfl, fun W hSW => ?_⟩, ?_⟩; rotate_left; (focus (go_simp; first | done | with_reducible rfl)); try simp only [Act.put, List.setIfInBounds_toArray, List.set_cons_zero, List.set_cons_succ])
                    (refine wpTree_mov rfl rfl ?_; intro o ho; simp only [List.getElem?_toArray, List.getElem?_cons_zero, List.getElem?_cons_succ, Option.some.injEq] at ho; subst ho; refine ⟨?_, Or.inl ⟨by rfl, fun W hSW => ?_⟩, ?_⟩; rotate_left; (focus (go_simp; first | done | with_reducible rfl)); try simp only [Act.put, List.setIfInBounds_toArray, List.set_cons_zero, List.set_cons_succ])
                    (refine wpTree_mov rfl rfl ?_; intro o ho; simp only [List.getElem?_toArray, List.getElem?_cons_zero, List.getElem?_cons_succ, Option.some.injEq] at ho; subst ho; refine ⟨?_, Or.inl ⟨by rfl, fun W hSW => ?_⟩, ?_⟩; rotate_left; (focus (go_simp; first | done | with_reducible rfl)); try simp only [Act.put, List.setIfInBounds_toArray, List.set_cons_zero, List.set_cons_succ])
                    (refine wpTree_mov rfl rfl ?_; intro o ho; simp only [List.getElem?_toArray, List.getElem?_cons_zero, List.getElem?_cons_succ, Option.some.injEq] at ho; subst ho; refine ⟨?_, Or.inl ⟨by rfl, fun W hSW => ?_⟩, ?_⟩; rotate_left; (focus (go_simp; first | done | with_reducible rfl)); try simp only [Act.put, List.setIfInBounds_toArray, List.set_cons_zero, List.set_cons_succ])
                    (refine wpTree_mov rfl rfl ?_; intro o ho; simp only [List.getElem?_toArray, List.getElem?_cons_zero, List.getElem?_cons_succ, Option.some.injEq] at ho; subst ho; refine ⟨?_, Or.inl ⟨by rfl, fun W hSW => ?_⟩, ?_⟩; rotate_left; (focus (go_simp; first | done | with_reducible rfl)); try simp only [Act.put, List.setIfInBounds_toArray, List.set_cons_zero, List.set_cons_succ])
                    (refine wpTree_mov rfl rfl ?_; intro o ho; simp only [List.getElem?_toArray, List.getElem?_cons_zero, List.getElem?_cons_succ, Option.some.injEq] at ho; subst ho; refine ⟨?_, Or.inl ⟨by rfl, fun W hSW => ?_⟩, ?_⟩; rotate_left; (focus (go_simp; first | done | with_reducible rfl)); try simp only [Act.put, List.setIfInBounds_toArray, List.set_cons_zero, List.set_cons_succ])
                    (refine wpTree_mov rfl rfl ?_; intro o ho; simp only [List.getElem?_toArray, List.getElem?_cons_zero, List.getElem?_cons_succ, Option.some.injEq] at ho; subst ho; refine ⟨?_, Or.inl ⟨by rfl, fun W hSW => ?_⟩, ?_⟩; rotate_left; (focus (go_simp; first | done | with_reducible rfl)); try simp only [Act.put, List.setIfInBounds_toArray, List.set_cons_zero, List.set_cons_succ])
                    (refine wpTree_mov rfl rfl ?_; intro o ho; simp only [List.getElem?_toArray, List.getElem?_cons_zero, List.getElem?_cons_succ, Option.some.injEq] at ho; subst ho; refine ⟨?_, Or.inl ⟨by rfl, fun W hSW => ?_⟩, ?_⟩; rotate_left; (focus (go_simp; first | done | with_reducible rfl)); try simp only [Act.put, List.setIfInBounds_toArray, List.set_cons_zero, List.set_cons_succ])
                    (refine wpTree_mov rfl rfl ?_; intro o ho; simp only [List.getElem?_toArray, List.getElem?_cons_zero, List.getElem?_cons_succ, Option.some.injEq] at ho; subst ho; refine ⟨?_, Or.inl ⟨by rfl, fun W hSW => ?_⟩, ?_⟩; rotate_left; (focus (go_simp; first | done | with_reducible rfl)); try simp only [Act.put, List.setIfInBounds_toArray, List.set_cons_zero, List.set_cons_succ])
                    have HQ : Hid (∀ W, OwnF W (w.heap.size + 3) 3 1 (.slice (some ⟨gI, oI, none⟩) s.2.1.length ci) s.2.1.length (i64s s.2.1) → W.cell? ⟨gI, oI + (p1 / 2).toNat, none⟩ = some (.int .i64 y1) ∧ W.cell? ⟨gI, oI + (p2 / 2).toNat, none⟩ = some (.int .i64 y2)) := fun W h => by
                      obtain ⟨g', o9, e', _, k1⟩ := Vals.of_own h.p _ _ (i64s_at HY1.out)
                      cases e'
                      obtain ⟨g', o9, e', _, k2⟩ := Vals.of_own h.p _ _ (i64s_at HY2.out)
                      cases e'
                      exact ⟨k1, k2⟩
                    obtain ⟨r, hr⟩ : ∃ r, andG s.1 a b = r := ⟨_, rfl⟩
                    have HC : Hid (∀ Q W, CpSt w Q bm fr (some ⟨b', o', none⟩) c2 (belowG fr l) s.1 A' c' W → Calls Try.prog 69 #[.agg #[.int .i64 s.1.n, .slice A' s.1.as.length c'], .int .i64 a, .int .i64 b] W (RetG W Q (andG s.1 a b))) := fun Q W h => rand_any s.1 a b A' c' W _ (ok_of_right HIN.out.right) (by omega) (by omega) h.cap h.prs
                    rw [hr] at HC HYES HBAD
                    rw [HE1.out, HE2.out]
                    clear hr
                    generalize wr.drew.drew = wD at HS HO q1 q2 ⊢
                    clear q1 q2
                    refine wpTree_fork ?_ ?_
                    · skip
                      (refine fixW_of rfl ?_; intro o ho; simp only [List.getElem?_toArray, List.getElem?_cons_zero, List.getElem?_cons_succ, Option.some.injEq] at ho; subst ho; intro K hK)
                      go_simp
                      refine (HC.out _ _ HS.out).mono ?_
                      rintro e w9 ⟨A5, c5, rfl, hc5, hp5, hb⟩
                      have HP5 : Hid (PrsQ w9 (QR w (.slice (some ⟨gI, oI, none⟩) s.2.1.length ci)) A5 r.1.as) := hp5.imp (fun b hb' _ => by
                        rcases hb' with ⟨h, _⟩ | h
                        · exact h
                        · have h1 := HS.out.size
                          exact ⟨by omega, by omega, fun j hj => by have := (HO.out.p.lt j hj).2; omega⟩)
                      replace HS := Lib.hid (HS.out.step hb); replace HO := Lib.hid (HO.out.step hb)
                      clear hb hp5
                      (refine hK.out _ _ (fun _ _ => ⟨HS.out.bt.cell 0, HS.out.bt.cell 1, (HQ.out _ HO.out).1, (HQ.out _ HO.out).2⟩) (fun _ _ => trivial) ?_; clear hK K; try simp only [Act.put, List.setIfInBounds_toArray, List.set_cons_zero, List.set_cons_succ])
                      (refine wpTree_mov rfl rfl ?_; intro o ho; simp only [List.getElem?_toArray, List.getElem?_cons_zero, List.getElem?_cons_succ, Option.some.injEq] at ho; subst ho; refine ⟨?_, Or.inl ⟨by rfl, fun W hSW => ?_⟩, ?_⟩; rotate_left; (focus (go_simp; first | done | with_reducible rfl)); try simp only [Act.put, List.setIfInBounds_toArray, List.set_cons_zero, List.set_cons_succ])
                      (refine wpTree_mov rfl rfl ?_; intro o ho; simp only [List.getElem?_toArray, List.getElem?_cons_zero, List.getElem?_cons_succ, Option.some.injEq] at ho; subst ho; refine ⟨?_, Or.inl ⟨by rfl, fun W hSW => ?_⟩, ?_⟩; rotate_left; (focus (go_simp; first | done | with_reducible rfl)); try simp only [Act.put, List.setIfInBounds_toArray, List.set_cons_zero, List.set_cons_succ])
                      (refine wpTree_mov rfl rfl ?_; intro o ho; simp only [List.getElem?_toArray, List.getElem?_cons_zero, List.getElem?_cons_succ, Option.some.injEq] at ho; subst ho; refine ⟨?_, Or.inl ⟨by rfl, fun W hSW => ?_⟩, ?_⟩; rotate_left; (focus (go_simp; first | done | with_reducible rfl)); try simp only [Act.put, List.setIfInBounds_toArray, List.set_cons_zero, List.set_cons_succ])
                      (refine wpTree_mov rfl rfl ?_; intro o ho; simp only [List.getElem?_toArray, List.getElem?_cons_zero, List.getElem?_cons_succ, Option.some.injEq] at ho; subst ho; refine ⟨?_, Or.inl ⟨by rfl, fun W hSW => ?_⟩, ?_⟩; rotate_left; (focus (go_simp; first | done | with_reducible rfl)); try simp only [Act.put, List.setIfInBounds_toArray, List.set_cons_zero, List.set_cons_succ])
                      have HS9 := HS
                      have HO9 := HO
                      replace HS := Lib.hid (HS.out.step (stepA w9 (.cells #[.int .i64 0, .slice none 0 0] 24))); replace HO := Lib.hid (HO.out.step (stepA w9 (.cells #[.int .i64 0, .slice none 0 0] 24)))
                      (refine wpTree_fix rfl rfl rfl ?_; intro o ho; simp only [List.getElem?_toArray, List.getElem?_cons_zero, List.getElem?_cons_succ, Option.some.injEq] at ho; subst ho; intro K hK)
                      go_simp
                      (refine hK.out _ _ (fun _ _ => ⟨HS.out.bt.cell 0, HS.out.bt.cell 1, (HQ.out _ HO.out).1, (HQ.out _ HO.out).2⟩) (fun _ _ => trivial) ?_; clear hK K; try simp only [Act.put, List.setIfInBounds_toArray, List.set_cons_zero, List.set_cons_succ])
                      clear HS HO
                      have HS := HS9
                      have HO := HO9
                      clear HS9 HO9
                      replace HS := Lib.hid (HS.out.step (stepA w9 (.cells #[.int .i64 r.1.n, .slice A5 r.1.as.length c5] 24))); replace HO := Lib.hid (HO.out.step (stepA w9 (.cells #[.int .i64 r.1.n, .slice A5 r.1.as.length c5] 24)))
                      have HB := Lib.hid (BlkF.new w9 24 #[.int .i64 r.1.n, .slice A5 r.1.as.length c5])
                      replace HP5 := Lib.hid (HP5.out.alloc (.cells #[.int .i64 r.1.n, .slice A5 r.1.as.length c5] 24))
                      (refine wpTree_fix rfl rfl rfl ?_; intro o ho; simp only [List.getElem?_toArray, List.getElem?_cons_zero, List.getElem?_cons_succ, Option.some.injEq] at ho; subst ho; intro K hK)
                      go_simp
                      (refine hK.out _ _ (fun _ _ => ⟨HS.out.bt.cell 0, HS.out.bt.cell 1, (HQ.out _ HO.out).1, (HQ.out _ HO.out).2⟩) (fun _ _ => trivial) ?_; clear hK K; try simp only [Act.put, List.setIfInBounds_toArray, List.set_cons_zero, List.set_cons_succ])
                      (refine wpTree_mov rfl rfl ?_; intro o ho; simp only [List.getElem?_toArray, List.getElem?_cons_zero, List.getElem?_cons_succ, Option.some.injEq] at ho; subst ho; refine ⟨?_, Or.inl ⟨by rfl, fun W hSW => ?_⟩, ?_⟩; rotate_left; (focus (go_simp; first | done | with_reducible rfl)); try simp only [Act.put, List.setIfInBounds_toArray, List.set_cons_zero, List.set_cons_succ])
                      (refine wpTree_mov rfl rfl ?_; intro o ho; simp only [List.getElem?_toArray, List.getElem?_cons_zero, List.getElem?_cons_succ, Option.some.injEq] at ho; subst ho; refine ⟨?_, Or.inl ⟨by rfl, fun W hSW => ?_⟩, ?_⟩; rotate_left; (focus (go_simp; first | done | with_reducible rfl)); try simp only [Act.put, List.setIfInBounds_toArray, List.set_cons_zero, List.set_cons_succ])
                      refine wpTree_done ?_
                      generalize w9.heap.size = hb0 at HB ⊢
                      generalize w9.alloc (.cells #[.int .i64 r.1.n, .slice A5 r.1.as.length c5] 24) = wX at HS HO HB HP5 ⊢
                      have hq0 : ¬ QR w (.slice (some ⟨gI, oI, none⟩) s.2.1.length ci) w.heap.size := fun h => h.1 rfl
                      have d0 := HB.out.cell 0
                      have d1 := HB.out.cell 1
                      by_cases he2 : r.2.2 = 0
                      · have he2' : (r.2.2 != 0) = false := by rw [he2]; rfl
                        have HSN := Lib.hid (HYES.out he2)
                        have e0 := HS.out.bt.cell 0
                        have e1 := HS.out.bt.cell 1
                        have f0 := HS.out.bt.frozen 0
                        have f1 := HS.out.bt.frozen 1
                        have HOy : Hid (OwnF _ _ _ _ _ _ _) := ⟨own_set (own_set HO.out.p HS.out.bt (by decide) 0 (.int .i64 r.1.n)) (HS.out.bt.set_ 0 (.int .i64 r.1.n)) (by decide) 1 (.slice A5 r.1.as.length c5)⟩
                        have HSy := Lib.hid (HS.out.put hq0 hc5 HP5.out)
                        clear he2 HYES HBAD HS HO
                        have HS := HSy
                        have HO := HOy
                        clear HSy HOy
                        have HCN := Lib.hid (cells_new ((wX.setCell ⟨w.heap.size, 0, none⟩ (.int .i64 r.1.n)).setCell ⟨w.heap.size, 1, none⟩ (.slice A5 r.1.as.length c5)) [.int .i64 (r.2.1)] 3)
                        rw [World.size_setCell, World.size_setCell] at HCN
                        go_wp2_with ((at_builtin; go_loud (refine wpList_append_own_at (o := ⟨some 121, _, _, _, _, _⟩) _ rfl (.tmp 118) (.tmp 120) _ rfl (w.heap.size + 3) 3 i0 _ 1 8 Try.underlying26 hi0 hz0 hz1 hz2 rfl (by omega) (.slice (some ⟨gI, oI, none⟩) s.2.1.length ci) s.2.1.length (i64s s.2.1) rfl (HO.out.p.alloc _) _ 1 1 [.int .i64 (r.2.1)] rfl rfl HCN.out (i64s_one [r.2.1]) (by unfold maxLen; omega) (by omega) (by have h1 := HS.out.size; simp only [World.size_setCell] at h1; simp; omega) ?_); intro v7 w7 hown7 hg7 _ hat7; have HS7 := Lib.hid ((HS.out.step (stepA ((wX.setCell ⟨w.heap.size, 0, none⟩ (.int .i64 r.1.n)).setCell ⟨w.heap.size, 1, none⟩ (.slice A5 r.1.as.length c5)) (.cells #[.int .i64 (r.2.1)] 3))).appended (HO.out.p.alloc _) hg7 hat7); have HO7 := Lib.hid hown7; clear hown7 hg7 hat7))
                        go_roundw
                        case rel =>
                          obtain ⟨I7, c7, hv7, _⟩ := own_form HO7.out
                          subst hv7
                          have hl7 : (copyAt to fr l by_ (k + 1)).2.1.length = s.2.1.length + 1 := by rw [HSN.out]; simp
                          refine ⟨k + 1, I7, c7, A5, c5, by omega, by rw [hl7], by go_num, by rw [HSN.out]; rfl, ?_, ⟨?_⟩⟩
                          · rw [hl7]
                            rw [HSN.out]
                            exact HS7.out
                          · rw [hl7]
                            rw [HSN.out, i64s_append]
                            exact HO7.out
                        case measure => simp [intOf]; omega
                      · have he2' : (r.2.2 != 0) = true := by rw [bne_iff_ne]; exact he2
                        have HSN := Lib.hid (HBAD.out he2)
                        have e0 := HS.out.br.cell 0
                        have e1 := HS.out.br.cell 1
                        have f0 := HS.out.br.frozen 0
                        have f1 := HS.out.br.frozen 1
                        clear he2 HYES HBAD d0 d1
                        go_wp2_with fail
                        refine bodyPost_ret (v := .tuple #[.agg #[.int .i64 0, .slice none 0 0], .int .i64 0, .int .i64 r.2.2]) (by simp [results, Try.results88, go_sem, e0, e1]) rfl ?_
                        rw [HSN.out]
                        exact ⟨none, 0, rfl, Nat.le_refl _, Prs.nil, (HS.out.low.setCell (p := ⟨w.heap.size + 2, 0, none⟩) (by simp) _).setCell (p := ⟨w.heap.size + 2, 1, none⟩) (by simp) _⟩
                    · skip
                      (refine fixW_of rfl ?_; intro o ho; simp only [List.getElem?_toArray, List.getElem?_cons_zero, List.getElem?_cons_succ, Option.some.injEq] at ho; subst ho; intro K hK)
                      go_simp
                      have HS0 : Hid (CpSt w (fun b => QR w (.slice (some ⟨gI, oI, none⟩) s.2.1.length ci) b ∧ b ≠ wD.heap.size) bm fr (some ⟨b', o', none⟩) c2 (belowG fr l) s.1 A' c' wD) := HS.out.imp fun b hb hlt => ⟨hb, by omega⟩
                      clear HS
                      have HS := HS0
                      have hrw : ∀ j, (Value.slice (some ⟨gI, oI, none⟩) s.2.1.length ci).ownBlock = some j → j < wD.heap.size := fun j hj => (HO.out.p.lt j hj).2
                      have hw3 := HS.out.size
                      clear HS0
                      replace HS := Lib.hid (HS.out.step (stepA wD (.cells #[.int .i64 0, .slice none 0 0] 24))); replace HO := Lib.hid (HO.out.step (stepA wD (.cells #[.int .i64 0, .slice none 0 0] 24)))
                      have HB := Lib.hid (BlkF.new wD 24 #[.int .i64 0, .slice none 0 0])
                      (refine hK.out _ _ (fun _ _ => ⟨HS.out.bt.cell 0, HS.out.bt.cell 1, (HQ.out _ HO.out).1, (HQ.out _ HO.out).2⟩) (fun _ _ => trivial) ?_; clear hK K; try simp only [Act.put, List.setIfInBounds_toArray, List.set_cons_zero, List.set_cons_succ])
                      (refine wpTree_fix rfl rfl rfl ?_; intro o ho; simp only [List.getElem?_toArray, List.getElem?_cons_zero, List.getElem?_cons_succ, Option.some.injEq] at ho; subst ho; intro K hK)
                      go_simp
                      refine (HC.out _ _ HS.out).mono ?_
                      rintro e w9 ⟨A5, c5, rfl, hc5, hp5, hb⟩
                      have HP5 : Hid (PrsQ w9 (fun b => QR w (.slice (some ⟨gI, oI, none⟩) s.2.1.length ci) b ∧ b ≠ wD.heap.size) A5 r.1.as) := hp5.imp (fun b hb' _ => by
                        rcases hb' with ⟨h, _⟩ | h
                        · exact h
                        · rw [World.size_alloc] at h
                          exact ⟨⟨by omega, by omega, fun j hj => by have := hrw j hj; omega⟩, by omega⟩)
                      replace HS := Lib.hid (HS.out.step hb); replace HO := Lib.hid (HO.out.step hb); replace HB := Lib.hid (HB.out.step hb)
                      clear hb hp5
                      (refine hK.out _ _ (fun _ _ => ⟨HS.out.bt.cell 0, HS.out.bt.cell 1, (HQ.out _ HO.out).1, (HQ.out _ HO.out).2⟩) (fun _ _ => trivial) ?_; clear hK K; try simp only [Act.put, List.setIfInBounds_toArray, List.set_cons_zero, List.set_cons_succ])
                      (refine wpTree_mov rfl rfl ?_; intro o ho; simp only [List.getElem?_toArray, List.getElem?_cons_zero, List.getElem?_cons_succ, Option.some.injEq] at ho; subst ho; refine ⟨?_, Or.inl ⟨by rfl, fun W hSW => ?_⟩, ?_⟩; rotate_left; (focus (go_simp; first | done | with_reducible rfl)); try simp only [Act.put, List.setIfInBounds_toArray, List.set_cons_zero, List.set_cons_succ])
                      (refine wpTree_mov rfl rfl ?_; intro o ho; simp only [List.getElem?_toArray, List.getElem?_cons_zero, List.getElem?_cons_succ, Option.some.injEq] at ho; subst ho; refine ⟨?_, Or.inl ⟨by rfl, fun W hSW => ?_⟩, ?_⟩; rotate_left; (focus (go_simp; first | done | with_reducible rfl)); try simp only [Act.put, List.setIfInBounds_toArray, List.set_cons_zero, List.set_cons_succ])
                      (refine wpTree_mov rfl rfl ?_; intro o ho; simp only [List.getElem?_toArray, List.getElem?_cons_zero, List.getElem?_cons_succ, Option.some.injEq] at ho; subst ho; refine ⟨?_, Or.inl ⟨by rfl, fun W hSW => ?_⟩, ?_⟩; rotate_left; (focus (go_simp; first | done | with_reducible rfl)); try simp only [Act.put, List.setIfInBounds_toArray, List.set_cons_zero, List.set_cons_succ])
                      (refine wpTree_mov rfl rfl ?_; intro o ho; simp only [List.getElem?_toArray, List.getElem?_cons_zero, List.getElem?_cons_succ, Option.some.injEq] at ho; subst ho; refine ⟨?_, Or.inl ⟨by rfl, fun W hSW => ?_⟩, ?_⟩; rotate_left; (focus (go_simp; first | done | with_reducible rfl)); try simp only [Act.put, List.setIfInBounds_toArray, List.set_cons_zero, List.set_cons_succ])
                      generalize wD.heap.size = hb0 at HS HO HB HP5 hrw hw3 ⊢
                      have d0 := HB.out.cell 0
                      have d1 := HB.out.cell 1
                      have f0 := HB.out.p.frozen 0
                      have f1 := HB.out.p.frozen 1
                      have hnq : ¬ (QR w (.slice (some ⟨gI, oI, none⟩) s.2.1.length ci) hb0 ∧ hb0 ≠ hb0) := fun h => h.2 rfl
                      have HBx : Hid (BlkF _ _ _ _) := ⟨(HB.out.p.set_ 0 (.int .i64 r.1.n)).set_ 1 (.slice A5 r.1.as.length c5)⟩
                      have HOx : Hid (OwnF _ _ _ _ _ _ _) := ⟨own_set (own_set HO.out.p HB.out.p (by decide) 0 (.int .i64 r.1.n)) (HB.out.p.set_ 0 (.int .i64 r.1.n)) (by decide) 1 (.slice A5 r.1.as.length c5)⟩
                      have HSx := Lib.hid (((HS.out.far HB.out.p hw3 (by decide) hnq 0 (.int .i64 r.1.n)).far (HB.out.p.set_ 0 (.int .i64 r.1.n)) hw3 (by decide) hnq 1 (.slice A5 r.1.as.length c5)).imp (Q' := QR w (.slice (some ⟨gI, oI, none⟩) s.2.1.length ci)) fun b hb _ => hb.1)
                      have HPx : Hid (PrsQ _ (QR w (.slice (some ⟨gI, oI, none⟩) s.2.1.length ci)) A5 r.1.as) := ((HP5.out.setCell (g := hb0) (j := 0) (fun b hb => hb.2) (.int .i64 r.1.n)).setCell (g := hb0) (j := 1) (fun b hb => hb.2) (.slice A5 r.1.as.length c5)).imp fun b hb _ => hb.1
                      clear HS HO HP5 HB
                      have HS := HSx
                      have HO := HOx
                      have HP5 := HPx
                      have HB := HBx
                      clear HSx HOx HPx HBx hrw hnq
                      (refine wpTree_fix rfl rfl rfl ?_; intro o ho; simp only [List.getElem?_toArray, List.getElem?_cons_zero, List.getElem?_cons_succ, Option.some.injEq] at ho; subst ho; intro K hK)
                      go_simp
                      (refine hK.out _ _ (fun _ _ => ⟨HS.out.bt.cell 0, HS.out.bt.cell 1, (HQ.out _ HO.out).1, (HQ.out _ HO.out).2⟩) (fun _ _ => trivial) ?_; clear hK K; try simp only [Act.put, List.setIfInBounds_toArray, List.set_cons_zero, List.set_cons_succ])
                      clear d0 d1 f0 f1
                      (refine wpTree_mov rfl rfl ?_; intro o ho; simp only [List.getElem?_toArray, List.getElem?_cons_zero, List.getElem?_cons_succ, Option.some.injEq] at ho; subst ho; refine ⟨?_, Or.inl ⟨by rfl, fun W hSW => ?_⟩, ?_⟩; rotate_left; (focus (go_simp; first | done | with_reducible rfl)); try simp only [Act.put, List.setIfInBounds_toArray, List.set_cons_zero, List.set_cons_succ])
                      (refine wpTree_mov rfl rfl ?_; intro o ho; simp only [List.getElem?_toArray, List.getElem?_cons_zero, List.getElem?_cons_succ, Option.some.injEq] at ho; subst ho; refine ⟨?_, Or.inl ⟨by rfl, fun W hSW => ?_⟩, ?_⟩; rotate_left; (focus (go_simp; first | done | with_reducible rfl)); try simp only [Act.put, List.setIfInBounds_toArray, List.set_cons_zero, List.set_cons_succ])
                      refine wpTree_done ?_
                      generalize (w9.setCell ⟨hb0, 0, none⟩ (.int .i64 r.1.n)).setCell ⟨hb0, 1, none⟩ (.slice A5 r.1.as.length c5) = wX at HS HO HB HP5 ⊢
                      have hq0 : ¬ QR w (.slice (some ⟨gI, oI, none⟩) s.2.1.length ci) w.heap.size := fun h => h.1 rfl
                      have d0 := HB.out.cell 0
                      have d1 := HB.out.cell 1
                      by_cases he2 : r.2.2 = 0
                      · have he2' : (r.2.2 != 0) = false := by rw [he2]; rfl
                        have HSN := Lib.hid (HYES.out he2)
                        have e0 := HS.out.bt.cell 0
                        have e1 := HS.out.bt.cell 1
                        have f0 := HS.out.bt.frozen 0
                        have f1 := HS.out.bt.frozen 1
                        have HOy : Hid (OwnF _ _ _ _ _ _ _) := ⟨own_set (own_set HO.out.p HS.out.bt (by decide) 0 (.int .i64 r.1.n)) (HS.out.bt.set_ 0 (.int .i64 r.1.n)) (by decide) 1 (.slice A5 r.1.as.length c5)⟩
                        have HSy := Lib.hid (HS.out.put hq0 hc5 HP5.out)
                        clear he2 HYES HBAD HS HO
                        have HS := HSy
                        have HO := HOy
                        clear HSy HOy
                        have HCN := Lib.hid (cells_new ((wX.setCell ⟨w.heap.size, 0, none⟩ (.int .i64 r.1.n)).setCell ⟨w.heap.size, 1, none⟩ (.slice A5 r.1.as.length c5)) [.int .i64 (r.2.1)] 3)
                        rw [World.size_setCell, World.size_setCell] at HCN
                        go_wp2_with ((at_builtin; go_loud (refine wpList_append_own_at (o := ⟨some 121, _, _, _, _, _⟩) _ rfl (.tmp 118) (.tmp 120) _ rfl (w.heap.size + 3) 3 i0 _ 1 8 Try.underlying26 hi0 hz0 hz1 hz2 rfl (by omega) (.slice (some ⟨gI, oI, none⟩) s.2.1.length ci) s.2.1.length (i64s s.2.1) rfl (HO.out.p.alloc _) _ 1 1 [.int .i64 (r.2.1)] rfl rfl HCN.out (i64s_one [r.2.1]) (by unfold maxLen; omega) (by omega) (by have h1 := HS.out.size; simp only [World.size_setCell] at h1; simp; omega) ?_); intro v7 w7 hown7 hg7 _ hat7; have HS7 := Lib.hid ((HS.out.step (stepA ((wX.setCell ⟨w.heap.size, 0, none⟩ (.int .i64 r.1.n)).setCell ⟨w.heap.size, 1, none⟩ (.slice A5 r.1.as.length c5)) (.cells #[.int .i64 (r.2.1)] 3))).appended (HO.out.p.alloc _) hg7 hat7); have HO7 := Lib.hid hown7; clear hown7 hg7 hat7))
                        go_roundw
                        case rel =>
                          obtain ⟨I7, c7, hv7, _⟩ := own_form HO7.out
                          subst hv7
                          have hl7 : (copyAt to fr l by_ (k + 1)).2.1.length = s.2.1.length + 1 := by rw [HSN.out]; simp
                          refine ⟨k + 1, I7, c7, A5, c5, by omega, by rw [hl7], by go_num, by rw [HSN.out]; rfl, ?_, ⟨?_⟩⟩
                          · rw [hl7]
                            rw [HSN.out]
                            exact HS7.out
                          · rw [hl7]
                            rw [HSN.out, i64s_append]
                            exact HO7.out
                        case measure => simp [intOf]; omega
                      · have he2' : (r.2.2 != 0) = true := by rw [bne_iff_ne]; exact he2
                        have HSN := Lib.hid (HBAD.out he2)
                        have e0 := HS.out.br.cell 0
                        have e1 := HS.out.br.cell 1
                        have f0 := HS.out.br.frozen 0
                        have f1 := HS.out.br.frozen 1
                        clear he2 HYES HBAD d0 d1
                        go_wp2_with fail
                        refine bodyPost_ret (v := .tuple #[.agg #[.int .i64 0, .slice none 0 0], .int .i64 0, .int .i64 r.2.2]) (by simp [results, Try.results88, go_sem, e0, e1]) rfl ?_
                        rw [HSN.out]
                        exact ⟨none, 0, rfl, Nat.le_refl _, Prs.nil, (HS.out.low.setCell (p := ⟨w.heap.size + 2, 0, none⟩) (by simp) _).setCell (p := ⟨w.heap.size + 2, 1, none⟩) (by simp) _⟩
                · obtain rfl : k = fr.as.length := by omega
                  have hlt' : ¬ ((fr.as.length : Int) < (fr.as.length : Int)) := by omega
                  have HDN := Lib.hid (copyG_done HOK.out HE0.out)
                  obtain ⟨_, _, l0, l2⟩ := (litB_iff fr l).1 HLB.out
                  obtain ⟨y, hy⟩ : ∃ y, (copyAt to fr l by_ fr.as.length).2.1[(l / 2).toNat]? = some y := ⟨_, List.getElem?_eq_getElem (by have := HIN.out.len; omega)⟩
                  have b1 := lit_small HIN.out.right (HIN.out.lit y (List.mem_of_getElem? hy))
                  have HE1 : Hid (bits .xor .i64 y (l % 2) = litI (copyAt to fr l by_ fr.as.length).2.1 l) := (xor_turnP y l b1.1 (by omega) l0).trans (litI_eq hy).symm
                  have hl1 : l / 2 < ((copyAt to fr l by_ fr.as.length).2.1.length : Int) := by have := HIN.out.len; omega
                  have HY := Lib.hid hy
                  generalize copyAt to fr l by_ fr.as.length = s at HIN HS HO HDN HE1 HY hl1 hy
                  clear hy HE0
                  obtain ⟨gI, oI, eI, _, q1⟩ := Vals.of_own HO.out.p _ _ (i64s_at HY.out)
                  subst eI
                  have hgI := (HO.out.p.lt gI rfl).1
                  go_wp2_with fail
                  replace HS := Lib.hid (HS.out.step (stepD1 _)); replace HO := Lib.hid (HO.out.step (stepD1 _))
                  have hw1 : IntKind.i64.wrap (Int.tdiv l 2) = l / 2 := by
                    rw [Int.tdiv_eq_ediv_of_nonneg (by omega)]
                    exact IntWalk.i64_in _ (by omega)
                  have hm1 : Int.tmod l 2 = l % 2 := Int.tmod_eq_emod_of_nonneg (by omega)
                  have j1 : 0 ≤ l / 2 := by omega
                  refine wp_region_noPanic ?_
                  refine wp_region_seq (fun W => W.cell? ⟨w.heap.size, 0, none⟩ = some (.int .i64 s.1.n) ∧ W.cell? ⟨w.heap.size, 1, none⟩ = some (.slice A' s.1.as.length c') ∧ W.cell? ⟨gI, oI + (l / 2).toNat, none⟩ = some (.int .i64 y)) [0, 1, 2, 3, 4, 5, 6, 7, 8, 9, 10, 11] [0, 1, 2, 3, 4, 5, 6, 7, 8, 10, 11] [] (by kernel_rfl) (by kernel_rfl) rfl (by kernel_rfl) (by kernel_rfl) (fun _ _ _ _ _ h => h) ?_ (fun hSS => ?_)
                  · exact ⟨HS.out.bt.cell 0, HS.out.bt.cell 1, q1⟩
                  have q2 : wr.drew.cell? ⟨gI, oI + (l / 2).toNat, none⟩ = some (.int .i64 y) := q1
                  clear hSS q1
                  generalize wr.drew = wD at HS HO q2 ⊢
                  (refine wpSeq_mov rfl rfl ?_; intro o ho; simp only [List.getElem?_toArray, List.getElem?_cons_zero, List.getElem?_cons_succ, Option.some.injEq] at ho; subst ho; refine ⟨?_, Or.inl ⟨by rfl, fun W hSW => ?_⟩, ?_⟩; rotate_left; (focus (go_simp; first | done | with_reducible rfl)); try simp only [Act.put, List.setIfInBounds_toArray, List.set_cons_zero, List.set_cons_succ])
                  (refine wpSeq_mov rfl rfl ?_; intro o ho; simp only [List.getElem?_toArray, List.getElem?_cons_zero, List.getElem?_cons_succ, Option.some.injEq] at ho; subst ho; refine ⟨?_, Or.inl ⟨by rfl, fun W hSW => ?_⟩, ?_⟩; rotate_left; (focus (go_simp; first | done | with_reducible rfl)); try simp only [Act.put, List.setIfInBounds_toArray, List.set_cons_zero, List.set_cons_succ])
                  (refine wpSeq_mov rfl rfl ?_; intro o ho; simp only [List.getElem?_toArray, List.getElem?_cons_zero, List.getElem?_cons_succ, Option.some.injEq] at ho; subst ho; refine ⟨?_, Or.inl ⟨by rfl, fun W hSW => ?_⟩, ?_⟩; rotate_left; (focus (go_simp; first | done | with_reducible rfl)); try simp only [Act.put, List.setIfInBounds_toArray, List.set_cons_zero, List.set_cons_succ])
                  (refine wpSeq_mov rfl rfl ?_; intro o ho; simp only [List.getElem?_toArray, List.getElem?_cons_zero, List.getElem?_cons_succ, Option.some.injEq] at ho; subst ho; refine ⟨?_, Or.inl ⟨by rfl, fun W hSW => ?_⟩, ?_⟩; rotate_left; (focus (go_simp; first | done | with_reducible rfl)); try simp only [Act.put, List.setIfInBounds_toArray, List.set_cons_zero, List.set_cons_succ])
                  (refine wpSeq_mov rfl rfl ?_; intro o ho; simp only [List.getElem?_toArray, List.getElem?_cons_zero, List.getElem?_cons_succ, Option.some.injEq] at ho; subst ho; refine ⟨?_, Or.inl ⟨by rfl, fun W hSW => ?_⟩, ?_⟩; rotate_left; (focus (go_simp; first | done | with_reducible rfl)); try simp only [Act.put, List.setIfInBounds_toArray, List.set_cons_zero, List.set_cons_succ])
                  (refine wpSeq_mov rfl rfl ?_; intro o ho; simp only [List.getElem?_toArray, List.getElem?_cons_zero, List.getElem?_cons_succ, Option.some.injEq] at ho; subst ho; refine ⟨?_, Or.inl ⟨by rfl, fun W hSW => ?_⟩, ?_⟩; rotate_left; (focus (go_simp; first | done | with_reducible rfl)); try simp only [Act.put, List.setIfInBounds_toArray, List.set_cons_zero, List.set_cons_succ])
                  (refine wpSeq_mov rfl rfl ?_; intro o ho; simp only [List.getElem?_toArray, List.getElem?_cons_zero, List.getElem?_cons_succ, Option.some.injEq] at ho; subst ho; refine ⟨?_, Or.inl ⟨by rfl, fun W hSW => ?_⟩, ?_⟩; rotate_left; (focus (go_simp; first | done | with_reducible rfl)); try simp only [Act.put, List.setIfInBounds_toArray, List.set_cons_zero, List.set_cons_succ])
                  (refine wpSeq_mov rfl rfl ?_; intro o ho; simp only [List.getElem?_toArray, List.getElem?_cons_zero, List.getElem?_cons_succ, Option.some.injEq] at ho; subst ho; refine ⟨?_, Or.inl ⟨by rfl, fun W hSW => ?_⟩, ?_⟩; rotate_left; (focus (go_simp; first | done | with_reducible rfl)); try simp only [Act.put, List.setIfInBounds_toArray, List.set_cons_zero, List.set_cons_succ])
                  (refine wpSeq_mov rfl rfl ?_; intro o ho; simp only [List.getElem?_toArray, List.getElem?_cons_zero, List.getElem?_cons_succ, Option.some.injEq] at ho; subst ho; refine ⟨?_, Or.inl ⟨by rfl, fun W hSW => ?_⟩, ?_⟩; rotate_left; (focus (go_simp; first | done | with_reducible rfl)); try simp only [Act.put, List.setIfInBounds_toArray, List.set_cons_zero, List.set_cons_succ])
                  rw [HE1.out]
                  have d0 := HS.out.br.cell 0
                  have d1 := HS.out.br.cell 1
                  have f0 := HS.out.br.frozen 0
                  have f1 := HS.out.br.frozen 1
                  have HX : Hid (Blk _ _ _ _) := (HS.out.br.set_ 0 (.int .i64 s.1.n)).set_ 1 (.slice A' s.1.as.length c')
                  have HT0 : Hid (Blk _ _ _ _) := (HS.out.bt.far (p := ⟨w.heap.size + 2, 0, none⟩) (by simp) (.int .i64 s.1.n)).far (p := ⟨w.heap.size + 2, 1, none⟩) (by simp) (.slice A' s.1.as.length c')
                  have HQ3 : Hid (((wD.setCell ⟨w.heap.size + 2, 0, none⟩ (.int .i64 s.1.n)).setCell ⟨w.heap.size + 2, 1, none⟩ (.slice A' s.1.as.length c')).cell? ⟨gI, oI + (l / 2).toNat, none⟩ = some (.int .i64 y)) := by
                    show World.cell? _ _ = _
                    rw [World.cell?_setCell_other _ _ _ _ (by intro h0; injection h0; omega), World.cell?_setCell_other _ _ _ _ (by intro h0; injection h0; omega)]
                    exact q2
                  clear q2
                  (refine wpSeq_fix rfl rfl ?_; intro o ho; simp only [List.getElem?_toArray, List.getElem?_cons_zero, List.getElem?_cons_succ, Option.some.injEq] at ho; subst ho; intro K hK)
                  go_simp
                  (refine hK.out _ _ (fun _ => ⟨HT0.out.cell 0, HT0.out.cell 1, HQ3.out⟩) ?_; clear hK K; try simp only [Act.put, List.setIfInBounds_toArray, List.set_cons_zero, List.set_cons_succ])
                  (refine wpSeq_mov rfl rfl ?_; intro o ho; simp only [List.getElem?_toArray, List.getElem?_cons_zero, List.getElem?_cons_succ, Option.some.injEq] at ho; subst ho; refine ⟨?_, Or.inl ⟨by rfl, fun W hSW => ?_⟩, ?_⟩; rotate_left; (focus (go_simp; first | done | with_reducible rfl)); try simp only [Act.put, List.setIfInBounds_toArray, List.set_cons_zero, List.set_cons_succ])
                  (refine wpSeq_mov rfl rfl ?_; intro o ho; simp only [List.getElem?_toArray, List.getElem?_cons_zero, List.getElem?_cons_succ, Option.some.injEq] at ho; subst ho; refine ⟨?_, Or.inl ⟨by rfl, fun W hSW => ?_⟩, ?_⟩; rotate_left; (focus (go_simp; first | done | with_reducible rfl)); try simp only [Act.put, List.setIfInBounds_toArray, List.set_cons_zero, List.set_cons_succ])
                  refine wpSeq_done ?_
                  clear d0 d1 f0 f1
                  have d0 := HX.out.cell 0
                  have d1 := HX.out.cell 1
                  go_wp2_with fail
                  refine bodyPost_ret (v := .tuple #[.agg #[.int .i64 s.1.n, .slice A' s.1.as.length c'], .int .i64 (litI s.2.1 l), .int .i64 0]) (by simp [results, Try.results88, go_sem, d0, d1]) rfl ?_
                  rw [HDN.out]
                  have hq8 : ∀ b, QR w (.slice (some ⟨gI, oI, none⟩) s.2.1.length ci) b → b ≠ w.heap.size + 2 := fun b hb => hb.2.1
                  exact ⟨A', c', rfl, HS.out.cap, ((HS.out.prs.setCell hq8 _).setCell hq8 _).prs, (HS.out.low.setCell (p := ⟨w.heap.size + 2, 0, none⟩) (by simp) _).setCell (p := ⟨w.heap.size + 2, 1, none⟩) (by simp) _⟩
        · have hn' : ((by_.length : Int) != fr.n) = true := by rw [bne_iff_ne]; exact hn
          have HE : Hid (copyG to fr l by_ = (noG, 0, 1)) := copyG_no (by unfold copyOk; rw [decide_eq_false hn]; simp)
          clear hn
          have d0 := H3.out.br.cell 0
          have d1 := H3.out.br.cell 1
          have f0 := H3.out.br.frozen 0
          have f1 := H3.out.br.frozen 1
          go_wp2_with fail
          refine bodyPost_ret (v := .tuple #[.agg #[.int .i64 0, .slice none 0 0], .int .i64 0, .int .i64 1]) (by simp [results, Try.results88, go_sem, d0, d1]) rfl ?_
          rw [HE.out]
          exact ⟨none, 0, rfl, Nat.le_refl _, Prs.nil, (H3.out.low.setCell (p := ⟨w.heap.size + 2, 0, none⟩) (by simp) _).setCell (p := ⟨w.heap.size + 2, 1, none⟩) (by simp) _⟩
end Go.Proofs.Ytbdhkagcbncefaa

set_option linter.unusedVariables false
set_option linter.unusedSimpArgs false
namespace Go.Proofs.Ytbdhkagcbncefaa
open Go.RowKit Go.Maps

/-- Inputs themselves. -/
def evens (n : Nat) : List Int := (List.range n).map fun (i : Nat) => 2 * ((i : Int) + 1)
theorem evens_length (n : Nat) : (evens n).length = n := by simp [evens]
theorem evens_succ (n : Nat) : evens (n + 1) = evens n ++ [2 * ((n : Int) + 1)] := by simp [evens, List.range_succ]
theorem fixBy_length (n : Nat) (input : Int) (v : Bool) : (fixBy n input v).length = n := by simp [fixBy]
theorem fixBy_succ (n : Nat) (input : Int) (v : Bool) : fixBy (n + 1) input v = fixBy n input v ++ [if (n : Int) + 1 = input then (if v then 1 else 0) else 2 * ((n : Int) + 1)] := by simp [fixBy, List.range_succ]
theorem evens_set {n : Nat} {input : Int} (v : Bool) (h1 : 1 ≤ input) (h2 : input ≤ n) : (evens n).set (input - 1).toNat (if v then 1 else 0) = fixBy n input v := by
  apply List.ext_getElem?
  intro i
  rw [List.getElem?_set]
  unfold evens fixBy
  rw [List.getElem?_map, List.getElem?_map, List.length_map, List.length_range]
  by_cases hi : i < n
  · rw [List.getElem?_range hi]
    by_cases e : (input - 1).toNat = i
    · rw [if_pos e, if_pos (show (input - 1).toNat < n by omega)]
      simp only [Option.map_some]
      rw [if_pos (show (i : Int) + 1 = input by omega)]
    · rw [if_neg e]
      simp only [Option.map_some]
      rw [if_neg (show ¬ (i : Int) + 1 = input by omega)]
  · rw [List.getElem?_eq_none (by simpa using hi)]
    by_cases e : (input - 1).toNat = i
    · rw [if_pos e, if_neg (show ¬ (input - 1).toNat < n by omega)]
      rfl
    · rw [if_neg e]
      rfl
theorem fixBy_small {n : Nat} {input : Int} {v : Bool} (hn : n ≤ 2000) : ∀ x ∈ fixBy n input v, x ≤ 9223372036854775807 := by
  intro x hx
  unfold fixBy at hx
  obtain ⟨i, hi, rfl⟩ := List.mem_map.1 hx
  have := List.mem_range.1 hi
  split
  · split <;> omega
  · omega

abbrev fxW (w : World) (g : Gr) (A : Option Addr) (c : Nat) : World :=
  (w.alloc (.cells #[.int .i64 g.n, .slice A g.as.length c] 24)).alloc (.cells #[.int .i64 0, .slice none 0 0] 24)
/-- The graph's box and the result's cell stand, and all that was there before. -/
structure Fx0 (w wr : World) (g : Gr) (A : Option Addr) (c : Nat) : Prop where
  below : Below (w.heap.size + 2) (fxW w g A c) wr
section
variable {w wr wr' : World} {g : Gr} {A : Option Addr} {c : Nat}
theorem fxW_size : (fxW w g A c).heap.size = w.heap.size + 2 := by simp [fxW]
theorem Fx0.begin_ : Fx0 w (fxW w g A c) g A c := ⟨Below.refl _ _⟩
theorem Fx0.size (h : Fx0 w wr g A c) : w.heap.size + 2 ≤ wr.heap.size := by have := h.below.size; rw [fxW_size] at this; exact this
theorem Fx0.gb (h : Fx0 w wr g A c) : Blk wr w.heap.size 24 #[.int .i64 g.n, .slice A g.as.length c] := ((Blk.new w _ _).alloc _).below h.below (by omega)
theorem Fx0.br (h : Fx0 w wr g A c) : Blk wr (w.heap.size + 1) 24 #[.int .i64 0, .slice none 0 0] := by
  have := Blk.new (w.alloc (.cells #[.int .i64 g.n, .slice A g.as.length c] 24)) 24 #[.int .i64 0, .slice none 0 0]
  rw [World.size_alloc] at this
  exact this.below h.below (by omega)
theorem Fx0.low (h : Fx0 w wr g A c) : Below w.heap.size w wr := (((Below.refl _ _).alloc (Nat.le_refl _) _).alloc (by simp) _).trans (h.below.mono (by omega))
theorem Fx0.step (h : Fx0 w wr g A c) (hb : Below wr.heap.size wr wr') : Fx0 w wr' g A c := ⟨h.below.trans (hb.mono h.size)⟩
theorem Fx0.far (h : Fx0 w wr g A c) {b : Nat} (hb : w.heap.size + 2 ≤ b) (i : Nat) (u : Value) : Fx0 w (wr.setCell ⟨b, i, none⟩ u) g A c := ⟨h.below.setCell (p := ⟨b, i, none⟩) hb u⟩
theorem Fx0.grown (h : Fx0 w wr g A c) {row : Option Nat} (hg : wr.grownBy wr' row) (hr : ∀ k, row = some k → w.heap.size + 2 ≤ k) : Fx0 w wr' g A c := ⟨h.below.grown hg h.size hr⟩
end

/-- Pairs do not lie in a graph's box. -/
theorem Prs.beside {w : World} {b : Nat} {t : TypeId} {n : Int} {B A : Option Addr} {m d : Nat} {ps : List Pr} (h : Prs w w.heap.size A ps) (hb : Blk w b t #[.int .i64 n, .slice B m d]) (j : Nat) (u : Value) : Prs (w.setCell ⟨b, j, none⟩ u) (w.setCell ⟨b, j, none⟩ u).heap.size A ps := fun i p hi => by
  obtain ⟨b', o, e, hlt, h1, h2⟩ := h i p hi
  have hne : b' ≠ b := by
    rintro rfl
    rw [hb.cell] at h1 h2
    generalize o + i * 2 = x at h1 h2
    match x, h1, h2 with
    | 0, _, h2 => cases h2
    | 1, h1, _ => cases h1
    | x + 2, h1, _ => simp at h1
  refine ⟨b', o, e, by simpa using hlt, ?_, ?_⟩
  · rw [World.cell?_setCell_other _ _ _ _ (by intro h0; injection h0 with h0; exact hne h0.symm)]
    exact h1
  · rw [World.cell?_setCell_other _ _ _ _ (by intro h0; injection h0 with h0; exact hne h0.symm)]
    exact h2

theorem fixG_no {g : Gr} {l input : Int} {v : Bool} (h : input < 1 ∨ g.n < input ∨ 2000 < g.n) : fixG g l input v = (noG, 0, 1) := by
  unfold fixG
  rw [if_pos h]
theorem fixG_yes {g : Gr} {l input : Int} {v : Bool} (h : ¬ (input < 1 ∨ g.n < input ∨ 2000 < g.n)) : fixG g l input v = copyG g g l (fixBy g.n.toNat input v) := by
  unfold fixG
  rw [if_neg h]

set_option maxRecDepth 100000 in
set_option maxHeartbeats 4000000 in
theorem cfix_any (g : Gr) (l input : Int) (v : Bool) (A : Option Addr) (c : Nat) (w : World) (hg : GOk g) (hl : l ≤ 9223372036854775807) (hi : -9223372036854775808 ≤ input ∧ input ≤ 9223372036854775807) (hc : g.as.length ≤ c) (hp : Prs w w.heap.size A g.as) :
    Calls Try.prog 61 #[.agg #[.int .i64 g.n, .slice A g.as.length c], .int .i64 l, .int .i64 input, .bool v] w (RetP w (fixG g l input v)) := by
  have hnot := @not_run Try.prog
  obtain ⟨hi1, hi2⟩ := hi
  have HP := Lib.hid hp
  have HG := Lib.hid hg
  have H0 := Lib.hid (Fx0.begin_ (w := w) (g := g) (A := A) (c := c))
  have c0 := H0.out.gb.cell 0
  have c1 := H0.out.gb.cell 1
  clear hg hp
  by_cases n1 : 1 ≤ input
  · by_cases n2 : input ≤ g.n
    · by_cases n3 : g.n ≤ 2000
      · have n1' : ¬ (input < 1) := by omega
        have n2' : ¬ (g.n < input) := by omega
        have n3' : ¬ ((2000 : Int) < g.n) := by omega
        have HE : Hid (fixG g l input v = copyG g g l (fixBy g.n.toNat input v)) := fixG_yes (by omega)
        obtain ⟨V, cs0, hV, hcs, hmk⟩ := make_zeros g.n (by omega) (by omega)
        have HCS := Lib.hid hcs
        have HVV := Lib.hid hV
        have hv1 : V ≤ 2000 := by omega
        have hgn : g.n.toNat = V := by omega
        rw [hgn] at HE
        clear hcs hV hgn
        go_enter Try.func61, Try.ntmps61
        have HRW : Hid (BlkF ((fxW w g A c).alloc (.cells cs0 3)) (w.heap.size + 2) 3 (i64s (padI (evens 0) V)).toArray) := by
          have h := BlkF.new (fxW w g A c) 3 cs0
          rw [fxW_size, HCS.out] at h
          rw [HCS.out]
          exact h
        have HF := Lib.hid (H0.out.step (stepA (fxW w g A c) (.cells cs0 3)))
        go_wp2_with fail
        obtain ⟨w2, hw2⟩ : ∃ w2, (fxW w g A c).alloc (.cells cs0 3) = w2 := ⟨_, rfl⟩
        rw [hw2] at HRW HF
        have hw2' : ((w.alloc (.cells #[.int .i64 g.n, .slice A g.as.length c] 24)).alloc (.cells #[.int .i64 0, .slice none 0 0] 24)).alloc (.cells cs0 3) = w2 := hw2
        rw [hw2']
        clear hw2 hw2' c0 c1 hmk HCS
        go_loopw [32] (fun i wr => ∃ k : Nat, k ≤ V ∧ i = .int .i64 k ∧ BlkF wr (w.heap.size + 2) 3 (i64s (padI (evens k) V)).toArray ∧ Fx0 w wr g A c) (fun i _ => V - (intOf i).toNat)
        case atStart => exact ⟨0, Nat.zero_le _, rfl, HRW.out, HF.out⟩
        case round =>
          obtain ⟨k, hk, rfl, hrow, hf0⟩ := hrel
          clear HRW HF
          have HRW := Lib.hid hrow
          have HF := Lib.hid hf0
          clear hrow hf0
          by_cases hlt : k < V
          · have hlt' : (k : Int) < (V : Int) := by omega
            have hpl : (padI (evens k) V).length = V := padI_length (by rw [evens_length]; omega)
            obtain ⟨y0, hy0⟩ : ∃ y, (padI (evens k) V)[k]? = some y := ⟨_, List.getElem?_eq_getElem (by rw [hpl]; exact hlt)⟩
            have d0 : wr.cell? ⟨w.heap.size + 2, k, none⟩ = some (.int .i64 y0) := by rw [HRW.out.cell, List.getElem?_toArray]; exact i64s_at hy0
            have f0 : wr.frozen? ⟨w.heap.size + 2, k, none⟩ = false := HRW.out.p.frozen _
            have hz := HRW.out.p.set_ k (.int .i64 (2 * ((k : Int) + 1)))
            have he : (padI (evens k) V).set k (2 * ((k : Int) + 1)) = padI (evens (k + 1)) V := by
              have := padI_set (L := evens k) (V := V) (by rw [evens_length]; exact hlt) (2 * ((k : Int) + 1))
              rw [evens_length] at this
              rw [evens_succ]
              exact this
            rw [i64s_set, he] at hz
            have HRz : Hid (BlkF _ _ _ _) := ⟨hz⟩
            have HFz := Lib.hid (HF.out.far (b := w.heap.size + 2) (Nat.le_refl _) k (.int .i64 (2 * ((k : Int) + 1))))
            clear hz he hy0 hpl HRW HF
            go_wp2_with fail
            go_roundw
            case rel => exact ⟨k + 1, by omega, by go_num, HRz.out, HFz.out⟩
            case measure => simp [intOf]; omega
          · obtain rfl : k = V := by omega
            have hlt' : ¬ ((k : Int) < (k : Int)) := by omega
            have hpe : padI (evens k) k = evens k := by unfold padI; rw [evens_length]; simp
            have hix : 0 ≤ input - 1 := by omega
            have hix2 : input - 1 < (k : Int) := by have := HVV.out; omega
            obtain ⟨y0, hy0⟩ : ∃ y, (evens k)[(input - 1).toNat]? = some y := ⟨_, List.getElem?_eq_getElem (by rw [evens_length]; omega)⟩
            have hkk : (input - 1).toNat = input.toNat - 1 := by omega
            rw [hkk] at hy0
            have d0 : wr.cell? ⟨w.heap.size + 2, input.toNat - 1, none⟩ = some (.int .i64 y0) := by rw [HRW.out.cell, hpe, List.getElem?_toArray]; exact i64s_at hy0
            have f0 : wr.frozen? ⟨w.heap.size + 2, input.toNat - 1, none⟩ = false := HRW.out.p.frozen _
            have hz := HRW.out.p.set_ (input.toNat - 1) (.int .i64 0)
            rw [hpe, i64s_set] at hz
            have HRz : Hid (BlkF _ _ _ _) := ⟨hz⟩
            have HFz := Lib.hid (HF.out.far (b := w.heap.size + 2) (Nat.le_refl _) (input.toNat - 1) (.int .i64 0))
            clear hz hpe hy0 HRW HF
            have HFB : Hid ((evens k).set (input.toNat - 1) (if v then 1 else 0) = fixBy k input v) := by show _ = _; rw [← hkk]; exact evens_set v n1 (by have := HVV.out; omega)
            clear hkk
            cases v
            · have hfb : (evens k).set (input.toNat - 1) 0 = fixBy k input false := HFB.out
              rw [hfb] at HRz
              have e0 := HFz.out.gb.cell 0
              have e1 := HFz.out.gb.cell 1
              clear hfb HFB
              have HCC := Lib.hid (ccopy_any g g l (fixBy k input false) A A (some ⟨w.heap.size + 2, 0, none⟩) c c k _ HG.out HG.out hl hc (HP.out.after HFz.out.low) (HP.out.after HFz.out.low) (fixBy_small hv1) (by rw [fixBy_length]; omega) (vals_of_blk HRz.out.p))
              rw [fixBy_length] at HCC
              obtain ⟨r, hr⟩ : ∃ r, copyG g g l (fixBy k input false) = r := ⟨_, rfl⟩
              rw [hr] at HCC HE
              clear hr
              go_wp2_with fail
              refine HCC.out.mono ?_
              rintro e w9 ⟨A9, c9, rfl, hc9, hp9, hb⟩
              have HF := Lib.hid (HFz.out.step hb)
              have d0 := HF.out.br.cell 0
              have d1 := HF.out.br.cell 1
              have f0 := HF.out.br.frozen 0
              have f1 := HF.out.br.frozen 1
              have HX : Hid (Blk _ _ _ _) := (HF.out.br.set_ 0 (.int .i64 r.1.n)).set_ 1 (.slice A9 r.1.as.length c9)
              have HPX := Lib.hid ((Prs.beside hp9 HF.out.br 0 (.int .i64 r.1.n)).beside (HF.out.br.set_ 0 (.int .i64 r.1.n)) 1 (.slice A9 r.1.as.length c9))
              clear hp9 hb
              go_wp2_with fail
              clear d0 d1 f0 f1
              have d0 := HX.out.cell 0
              have d1 := HX.out.cell 1
              refine bodyPost_ret (v := .tuple #[.agg #[.int .i64 r.1.n, .slice A9 r.1.as.length c9], .int .i64 r.2.1, .int .i64 r.2.2]) (by simp [results, Try.results61, go_sem, d0, d1]) rfl ?_
              rw [HE.out]
              exact ⟨A9, c9, rfl, hc9, HPX.out, (HF.out.low.setCell (p := ⟨w.heap.size + 1, 0, none⟩) (by simp) _).setCell (p := ⟨w.heap.size + 1, 1, none⟩) (by simp) _⟩
            · have hfb : (evens k).set (input.toNat - 1) 1 = fixBy k input true := HFB.out
              have d1 := HRz.out.cell (input.toNat - 1)
              rw [List.getElem?_toArray, i64s_at (List.getElem?_set_self (by rw [evens_length]; omega))] at d1
              have f1 := HRz.out.p.frozen (input.toNat - 1)
              have hz := HRz.out.p.set_ (input.toNat - 1) (.int .i64 1)
              rw [i64s_set, List.set_set, hfb] at hz
              clear HRz
              have HRz : Hid (BlkF _ _ _ _) := ⟨hz⟩
              replace HFz := Lib.hid (HFz.out.far (b := w.heap.size + 2) (Nat.le_refl _) (input.toNat - 1) (.int .i64 1))
              have e0 := HFz.out.gb.cell 0
              have e1 := HFz.out.gb.cell 1
              clear hfb HFB hz
              have HCC := Lib.hid (ccopy_any g g l (fixBy k input true) A A (some ⟨w.heap.size + 2, 0, none⟩) c c k _ HG.out HG.out hl hc (HP.out.after HFz.out.low) (HP.out.after HFz.out.low) (fixBy_small hv1) (by rw [fixBy_length]; omega) (vals_of_blk HRz.out.p))
              rw [fixBy_length] at HCC
              obtain ⟨r, hr⟩ : ∃ r, copyG g g l (fixBy k input true) = r := ⟨_, rfl⟩
              rw [hr] at HCC HE
              clear hr
              go_wp2_with fail
              refine HCC.out.mono ?_
              rintro e w9 ⟨A9, c9, rfl, hc9, hp9, hb⟩
              have HF := Lib.hid (HFz.out.step hb)
              have d0 := HF.out.br.cell 0
              have d1 := HF.out.br.cell 1
              have f0 := HF.out.br.frozen 0
              have f1 := HF.out.br.frozen 1
              have HX : Hid (Blk _ _ _ _) := (HF.out.br.set_ 0 (.int .i64 r.1.n)).set_ 1 (.slice A9 r.1.as.length c9)
              have HPX := Lib.hid ((Prs.beside hp9 HF.out.br 0 (.int .i64 r.1.n)).beside (HF.out.br.set_ 0 (.int .i64 r.1.n)) 1 (.slice A9 r.1.as.length c9))
              clear hp9 hb
              go_wp2_with fail
              clear d0 d1 f0 f1
              have d0 := HX.out.cell 0
              have d1 := HX.out.cell 1
              refine bodyPost_ret (v := .tuple #[.agg #[.int .i64 r.1.n, .slice A9 r.1.as.length c9], .int .i64 r.2.1, .int .i64 r.2.2]) (by simp [results, Try.results61, go_sem, d0, d1]) rfl ?_
              rw [HE.out]
              exact ⟨A9, c9, rfl, hc9, HPX.out, (HF.out.low.setCell (p := ⟨w.heap.size + 1, 0, none⟩) (by simp) _).setCell (p := ⟨w.heap.size + 1, 1, none⟩) (by simp) _⟩
      · have n3' : (2000 : Int) < g.n := by omega
        have n1' : ¬ (input < 1) := by omega
        have n2' : ¬ (g.n < input) := by omega
        have HE : Hid (fixG g l input v = (noG, 0, 1)) := fixG_no (.inr (.inr n3'))
        have d0 := H0.out.br.cell 0
        have d1 := H0.out.br.cell 1
        have f0 := H0.out.br.frozen 0
        have f1 := H0.out.br.frozen 1
        go_enter Try.func61, Try.ntmps61
        go_wp2_with fail
        refine bodyPost_ret (v := .tuple #[.agg #[.int .i64 0, .slice none 0 0], .int .i64 0, .int .i64 1]) (by simp [results, Try.results61, go_sem, d0, d1]) rfl ?_
        rw [HE.out]
        exact ⟨none, 0, rfl, Nat.le_refl _, Prs.nil, H0.out.low⟩
    · have n1' : ¬ (input < 1) := by omega
      have n2' : g.n < input := by omega
      have HE : Hid (fixG g l input v = (noG, 0, 1)) := fixG_no (.inr (.inl n2'))
      have d0 := H0.out.br.cell 0
      have d1 := H0.out.br.cell 1
      have f0 := H0.out.br.frozen 0
      have f1 := H0.out.br.frozen 1
      go_enter Try.func61, Try.ntmps61
      go_wp2_with fail
      refine bodyPost_ret (v := .tuple #[.agg #[.int .i64 0, .slice none 0 0], .int .i64 0, .int .i64 1]) (by simp [results, Try.results61, go_sem, d0, d1]) rfl ?_
      rw [HE.out]
      exact ⟨none, 0, rfl, Nat.le_refl _, Prs.nil, H0.out.low⟩
  · have n1' : input < 1 := by omega
    have HE : Hid (fixG g l input v = (noG, 0, 1)) := fixG_no (.inl n1')
    have d0 := H0.out.br.cell 0
    have d1 := H0.out.br.cell 1
    have f0 := H0.out.br.frozen 0
    have f1 := H0.out.br.frozen 1
    go_enter Try.func61, Try.ntmps61
    go_wp2_with fail
    refine bodyPost_ret (v := .tuple #[.agg #[.int .i64 0, .slice none 0 0], .int .i64 0, .int .i64 1]) (by simp [results, Try.results61, go_sem, d0, d1]) rfl ?_
    rw [HE.out]
    exact ⟨none, 0, rfl, Nat.le_refl _, Prs.nil, H0.out.low⟩

set_option maxRecDepth 100000 in
set_option maxHeartbeats 4000000 in
theorem rfix_any (g : Gr) (l input : Int) (v : Bool) (A : Option Addr) (c : Nat) (w : World) (hg : GOk g) (hl : l ≤ 9223372036854775807) (hi : -9223372036854775808 ≤ input ∧ input ≤ 9223372036854775807) (hc : g.as.length ≤ c) (hp : Prs w w.heap.size A g.as) :
    Calls Try.prog 89 #[.agg #[.int .i64 g.n, .slice A g.as.length c], .int .i64 l, .int .i64 input, .bool v] w (RetP w (fixG g l input v)) := by
  have hnot := @not_run Try.prog
  obtain ⟨hi1, hi2⟩ := hi
  have HP := Lib.hid hp
  have HG := Lib.hid hg
  have H0 := Lib.hid (Fx0.begin_ (w := w) (g := g) (A := A) (c := c))
  have c0 := H0.out.gb.cell 0
  have c1 := H0.out.gb.cell 1
  clear hg hp
  by_cases n1 : 1 ≤ input
  · by_cases n2 : input ≤ g.n
    · by_cases n3 : g.n ≤ 2000
      · have n1' : ¬ (input < 1) := by omega
        have n2' : ¬ (g.n < input) := by omega
        have n3' : ¬ ((2000 : Int) < g.n) := by omega
        have HE : Hid (fixG g l input v = copyG g g l (fixBy g.n.toNat input v)) := fixG_yes (by omega)
        obtain ⟨i0, hi0, hz0, hz1, hz2⟩ := info_parts intInfo
        go_enter Try.func89, Try.ntmps89
        obtain ⟨V, hV⟩ : ∃ V : Nat, g.n = (V : Int) := ⟨g.n.toNat, by omega⟩
        have HVV : Hid ((V : Int) = g.n) := hV.symm
        have hv1 : V ≤ 2000 := by omega
        have hgn : g.n.toNat = V := by omega
        rw [hgn] at HE
        clear hV hgn
        have HF := H0
        clear H0
        go_wp2_with fail
        obtain ⟨w2, hw2⟩ : ∃ w2, fxW w g A c = w2 := ⟨_, rfl⟩
        rw [hw2] at HF
        have hw2' : (w.alloc (.cells #[.int .i64 g.n, .slice A g.as.length c] 24)).alloc (.cells #[.int .i64 0, .slice none 0 0] 24) = w2 := hw2
        rw [hw2']
        clear hw2 hw2' c0 c1
        go_loopw [11, 12] (fun v' i wr => ∃ (k : Nat) (I : Option Addr) (ci : Nat), k ≤ V ∧ v' = .slice I k ci ∧ i = .int .i64 ((k : Int) + 1) ∧ OwnF wr (w.heap.size + 2) 3 1 (.slice I k ci) k (i64s (fixBy k input v)) ∧ Fx0 w wr g A c) (fun _ i _ => (V + 1 - (intOf i).toNat))
        case atStart => exact ⟨0, none, 0, Nat.zero_le _, rfl, rfl, ⟨World.ownsRow_nil _ _ _ _⟩, HF.out⟩
        case round =>
          obtain ⟨k, I, ci, hk, rfl, rfl, hown, hf0⟩ := hrel
          clear HF
          have HO := Lib.hid hown
          have HF := Lib.hid hf0
          clear hown hf0
          have c0 := HF.out.gb.cell 0
          have c1 := HF.out.gb.cell 1
          have hsz := HF.out.size
          by_cases hlt : (k : Int) + 1 ≤ g.n
          · have HVL : Hid (k < V) := by have := HVV.out; show k < V; omega
            have HSN := Lib.hid (fixBy_succ k input v)
            by_cases hki : (k : Int) + 1 = input
            · have hki' : ((k : Int) + 1 == input) = true := by rw [hki]; simp
              rw [if_pos hki] at HSN
              clear hki
              cases v
              · simp only [Bool.false_eq_true, if_false] at HSN
                go_wp2_with ((at_builtin; go_loud (refine wpList_append_vals _ rfl (.tmp 40) (.tmp 42) _ rfl (w.heap.size + 2) 3 i0 _ 1 8 Try.underlying26 hi0 hz0 hz1 hz2 rfl (by omega) (.slice I k ci) k (i64s (fixBy k input _)) rfl (HO.out.p.alloc _) _ _ 1 1 [.int .i64 (0)] rfl rfl (vals_new wr [.int .i64 (0)] 3) (i64s_one [0]) (by unfold maxLen; omega) (by omega) (by simp; omega) ?_); intro v5 w5 hown5 hg5; have HO5 := Lib.hid hown5; have HF5 := Lib.hid ((HF.out.step (stepA wr (.cells #[.int .i64 (0)] 3))).grown hg5 (own_block HO.out.p)); clear hown5 hg5))
                go_roundw
                case rel =>
                  obtain ⟨A6, c6, hv6, _⟩ := own_form HO5.out
                  subst hv6
                  exact ⟨k + 1, A6, c6, HVL.out, rfl, by go_num, ⟨by rw [HSN.out, i64s_append]; exact HO5.out⟩, HF5.out⟩
                case measure => have := HVL.out; simp [intOf]; omega

              · simp only [if_true] at HSN
                go_wp2_with ((at_builtin; go_loud (refine wpList_append_vals _ rfl (.tmp 40) (.tmp 42) _ rfl (w.heap.size + 2) 3 i0 _ 1 8 Try.underlying26 hi0 hz0 hz1 hz2 rfl (by omega) (.slice I k ci) k (i64s (fixBy k input _)) rfl (HO.out.p.alloc _) _ _ 1 1 [.int .i64 (1)] rfl rfl (vals_new wr [.int .i64 (1)] 3) (i64s_one [1]) (by unfold maxLen; omega) (by omega) (by simp; omega) ?_); intro v5 w5 hown5 hg5; have HO5 := Lib.hid hown5; have HF5 := Lib.hid ((HF.out.step (stepA wr (.cells #[.int .i64 (1)] 3))).grown hg5 (own_block HO.out.p)); clear hown5 hg5))
                go_roundw
                case rel =>
                  obtain ⟨A6, c6, hv6, _⟩ := own_form HO5.out
                  subst hv6
                  exact ⟨k + 1, A6, c6, HVL.out, rfl, by go_num, ⟨by rw [HSN.out, i64s_append]; exact HO5.out⟩, HF5.out⟩
                case measure => have := HVL.out; simp [intOf]; omega

            · have hki' : ((k : Int) + 1 == input) = false := by rw [beq_eq_false_iff_ne]; exact hki
              rw [if_neg hki] at HSN
              go_wp2_with ((at_builtin; go_loud (refine wpList_append_vals _ rfl (.tmp 40) (.tmp 42) _ rfl (w.heap.size + 2) 3 i0 _ 1 8 Try.underlying26 hi0 hz0 hz1 hz2 rfl (by omega) (.slice I k ci) k (i64s (fixBy k input _)) rfl (HO.out.p.alloc _) _ _ 1 1 [.int .i64 (2 * ((k : Int) + 1))] rfl rfl (vals_new wr [.int .i64 (2 * ((k : Int) + 1))] 3) (i64s_one [2 * ((k : Int) + 1)]) (by unfold maxLen; omega) (by omega) (by simp; omega) ?_); intro v5 w5 hown5 hg5; have HO5 := Lib.hid hown5; have HF5 := Lib.hid ((HF.out.step (stepA wr (.cells #[.int .i64 (2 * ((k : Int) + 1))] 3))).grown hg5 (own_block HO.out.p)); clear hown5 hg5))
              go_roundw
              case rel =>
                obtain ⟨A6, c6, hv6, _⟩ := own_form HO5.out
                subst hv6
                exact ⟨k + 1, A6, c6, HVL.out, rfl, by go_num, ⟨by rw [HSN.out, i64s_append]; exact HO5.out⟩, HF5.out⟩
              case measure => have := HVL.out; simp [intOf]; omega

          · have HKV : Hid (k = V) := by have := HVV.out; show k = V; omega
            have HRz := Lib.hid (Vals.of_own HO.out.p)
            have hck : k ≤ ci := own_cap HO.out.p
            have hv1k : k ≤ 2000 := by omega
            rw [← HKV.out] at HE
            have HCC := Lib.hid (rcopy_any g g l (fixBy k input v) A A I c c ci wr HG.out HG.out hl hc (HP.out.after HF.out.low) (HP.out.after HF.out.low) (fixBy_small hv1k) (by rw [fixBy_length]; omega) HRz.out)
            rw [fixBy_length] at HCC
            obtain ⟨r, hr⟩ : ∃ r, copyG g g l (fixBy k input v) = r := ⟨_, rfl⟩
            rw [hr] at HCC HE
            clear hr
            go_wp2_with fail
            refine HCC.out.mono ?_
            rintro e w9 ⟨A9, c9, rfl, hc9, hp9, hb⟩
            have HF2 := Lib.hid (HF.out.step hb)
            clear HF
            have HF := HF2
            clear HF2
            have d0 := HF.out.br.cell 0
            have d1 := HF.out.br.cell 1
            have f0 := HF.out.br.frozen 0
            have f1 := HF.out.br.frozen 1
            have HX : Hid (Blk _ _ _ _) := (HF.out.br.set_ 0 (.int .i64 r.1.n)).set_ 1 (.slice A9 r.1.as.length c9)
            have HPX := Lib.hid ((Prs.beside hp9 HF.out.br 0 (.int .i64 r.1.n)).beside (HF.out.br.set_ 0 (.int .i64 r.1.n)) 1 (.slice A9 r.1.as.length c9))
            clear hp9 hb
            go_wp2_with fail
            clear d0 d1 f0 f1
            have d0 := HX.out.cell 0
            have d1 := HX.out.cell 1
            refine bodyPost_ret (v := .tuple #[.agg #[.int .i64 r.1.n, .slice A9 r.1.as.length c9], .int .i64 r.2.1, .int .i64 r.2.2]) (by simp [results, Try.results89, go_sem, d0, d1]) rfl ?_
            rw [HE.out]
            exact ⟨A9, c9, rfl, hc9, HPX.out, (HF.out.low.setCell (p := ⟨w.heap.size + 1, 0, none⟩) (by simp) _).setCell (p := ⟨w.heap.size + 1, 1, none⟩) (by simp) _⟩
      · have n3' : (2000 : Int) < g.n := by omega
        have n1' : ¬ (input < 1) := by omega
        have n2' : ¬ (g.n < input) := by omega
        have HE : Hid (fixG g l input v = (noG, 0, 1)) := fixG_no (.inr (.inr n3'))
        have d0 := H0.out.br.cell 0
        have d1 := H0.out.br.cell 1
        have f0 := H0.out.br.frozen 0
        have f1 := H0.out.br.frozen 1
        go_enter Try.func89, Try.ntmps89
        go_wp2_with fail
        refine bodyPost_ret (v := .tuple #[.agg #[.int .i64 0, .slice none 0 0], .int .i64 0, .int .i64 1]) (by simp [results, Try.results89, go_sem, d0, d1]) rfl ?_
        rw [HE.out]
        exact ⟨none, 0, rfl, Nat.le_refl _, Prs.nil, H0.out.low⟩
    · have n1' : ¬ (input < 1) := by omega
      have n2' : g.n < input := by omega
      have HE : Hid (fixG g l input v = (noG, 0, 1)) := fixG_no (.inr (.inl n2'))
      have d0 := H0.out.br.cell 0
      have d1 := H0.out.br.cell 1
      have f0 := H0.out.br.frozen 0
      have f1 := H0.out.br.frozen 1
      go_enter Try.func89, Try.ntmps89
      go_wp2_with fail
      refine bodyPost_ret (v := .tuple #[.agg #[.int .i64 0, .slice none 0 0], .int .i64 0, .int .i64 1]) (by simp [results, Try.results89, go_sem, d0, d1]) rfl ?_
      rw [HE.out]
      exact ⟨none, 0, rfl, Nat.le_refl _, Prs.nil, H0.out.low⟩
  · have n1' : input < 1 := by omega
    have HE : Hid (fixG g l input v = (noG, 0, 1)) := fixG_no (.inl n1')
    have d0 := H0.out.br.cell 0
    have d1 := H0.out.br.cell 1
    have f0 := H0.out.br.frozen 0
    have f1 := H0.out.br.frozen 1
    go_enter Try.func89, Try.ntmps89
    go_wp2_with fail
    refine bodyPost_ret (v := .tuple #[.agg #[.int .i64 0, .slice none 0 0], .int .i64 0, .int .i64 1]) (by simp [results, Try.results89, go_sem, d0, d1]) rfl ?_
    rw [HE.out]
    exact ⟨none, 0, rfl, Nat.le_refl _, Prs.nil, H0.out.low⟩

end Go.Proofs.Ytbdhkagcbncefaa

set_option linter.unusedVariables false
set_option linter.unusedSimpArgs false
namespace Go.Proofs.Ytbdhkagcbncefaa
open Go.RowKit Go.Maps

def g3 : Gr := ⟨3, []⟩
theorem g3_ok : GOk g3 := ⟨by decide, by simp [g3], by simp [g3]⟩
theorem aw_supp : suppG g1 7 = [1, 2] := by kernel_rfl
theorem aw_gates : gatesG g1 7 = 1 := by kernel_rfl
theorem aw_fix : fixG g1 6 1 true = (g1, 4, 0) := by kernel_rfl
theorem aw_fix' : fixG g1 6 3 true = (noG, 0, 1) := by kernel_rfl
theorem aw_copy : copyG g3 g1 7 [3, 6] = (⟨3, [(6, 3)]⟩, 9, 0) := by kernel_rfl

theorem vals_two {w : World} {B : Nat} {A : Option Addr} {x y : Value} (h : Vals w B A [x, y]) : ∃ b o, A = some ⟨b, o, none⟩ ∧ w.cell? ⟨b, o, none⟩ = some x ∧ w.cell? ⟨b, o + 1, none⟩ = some y := by
  obtain ⟨b1, o1, e1, _, h1⟩ := h 0 _ rfl
  obtain ⟨b2, o2, e2, _, h2⟩ := h 1 _ rfl
  rw [e1] at e2
  cases e2
  exact ⟨b1, o1, e1, h1, h2⟩

set_option maxRecDepth 100000 in
set_option maxHeartbeats 2000000 in
theorem awake3_any (w : World) : Calls Try.prog 55 #[] w (Ret w (.bool true)) := by
  have hnot := @not_run Try.prog
  have hqe := @eql_pair
  have n1 : g1.n = 2 := rfl
  have l1 : g1.as.length = 1 := rfl
  have n0 : noG.n = 0 := rfl
  have l0 : noG.as.length = 0 := rfl
  have HC1 := Lib.hid (fun (l : Int) (hl : l ≤ 9223372036854775807) (A : Option Addr) (W : World) (hp : Prs W W.heap.size A g1.as) => support_any g1 l A 1 W g1_ok hl hp)
  have HC2 := Lib.hid (fun (l i : Int) (hl : l ≤ 9223372036854775807) (hi : -9223372036854775808 ≤ i ∧ i ≤ 9223372036854775807) (A : Option Addr) (W : World) (hp : Prs W W.heap.size A g1.as) => cfix_any g1 l i true A 1 W g1_ok hl hi (by simp [g1]) hp)
  have HC3 := Lib.hid (fun (A : Option Addr) (W : World) (hp : Prs W W.heap.size A g1.as) (B : Option Addr) (hv : Vals W W.heap.size B (i64s [3, 6])) => ccopy_any g3 g1 7 [3, 6] none A B 0 1 2 W g3_ok g1_ok (by omega) (by simp [g3]) (by simp [g3]; exact Prs.nil) hp (by simp) (by simp) hv)
  have HC4 := Lib.hid (fun (A : Option Addr) (W : World) (hp : Prs W W.heap.size A g1.as) => cgates_any g1 7 A 1 W g1_ok (by omega) hp)
  rw [aw_copy] at HC3
  rw [aw_gates] at HC4
  have HG : Hid (GBox ((w.alloc (.cells #[.int .i64 4, .int .i64 2] 41)).alloc (.cells #[.int .i64 2, .slice (some ⟨w.heap.size, 0, none⟩) 1 1] 24)) (w.heap.size + 1) g1 (some ⟨w.heap.size, 0, none⟩) 1) := by
    have h1 : Prs (w.alloc (.cells #[.int .i64 4, .int .i64 2] 41)) (w.alloc (.cells #[.int .i64 4, .int .i64 2] 41)).heap.size (some ⟨w.heap.size, 0, none⟩) g1.as := Prs.of_vals (vals_new' w [.int .i64 4, .int .i64 2] 41)
    have h2 := GBox.new (g := g1) (d := 1) (w := w.alloc (.cells #[.int .i64 4, .int .i64 2] 41)) (by simp [g1]) h1
    rw [World.size_alloc] at h2
    exact h2
  have HL := Lib.hid (((Low.refl w).step (stepA w (.cells #[.int .i64 4, .int .i64 2] 41))).step (stepA _ (.cells #[.int .i64 2, .slice (some ⟨w.heap.size, 0, none⟩) 1 1] 24)))
  go_enter Try.func55, Try.ntmps55
  go_wp2_with fail
  refine (HC1.out 7 (by omega) _ _ HG.out.prs).mono ?_
  rintro e w1 ⟨A1, c1, rfl, hc1, hv, hb⟩
  replace HG := Lib.hid (HG.out.step hb); replace HL := Lib.hid (HL.out.step hb)
  rw [aw_supp] at hc1 hv ⊢
  have HV : Hid (ValsF w1 A1 [.int .i64 1, .int .i64 2]) := ⟨hv⟩
  clear hb hv
  have c0 := HG.out.c0
  have c1' := HG.out.c1
  go_wp2_with fail
  refine (HC2.out 6 1 (by omega) (by omega) _ _ HG.out.prs).mono ?_
  rintro e w2 ⟨A2, c2, rfl, hc2, _, hb⟩
  replace HG := Lib.hid (HG.out.step hb); replace HL := Lib.hid (HL.out.step hb); replace HV := Lib.hid (HV.out.step hb)
  rw [aw_fix] at hc2 ⊢
  clear hb c0 c1'
  replace HG := Lib.hid (HG.out.step (stepA w2 (.cells #[.int .i64 2, .slice A2 1 c2] 24))); replace HL := Lib.hid (HL.out.step (stepA w2 (.cells #[.int .i64 2, .slice A2 1 c2] 24))); replace HV := Lib.hid (HV.out.step (stepA w2 (.cells #[.int .i64 2, .slice A2 1 c2] 24)))
  have c0 := HG.out.c0
  have c1' := HG.out.c1
  go_wp2_with fail
  refine (HC2.out 6 3 (by omega) (by omega) _ _ HG.out.prs).mono ?_
  rintro e w3 ⟨A3, c3, rfl, hc3, _, hb⟩
  replace HG := Lib.hid (HG.out.step hb); replace HL := Lib.hid (HL.out.step hb); replace HV := Lib.hid (HV.out.step hb)
  rw [aw_fix'] at hc3 ⊢
  clear hb c0 c1'
  replace HG := Lib.hid (HG.out.step (stepA w3 (.cells #[.int .i64 0, .slice A3 0 c3] 24))); replace HL := Lib.hid (HL.out.step (stepA w3 (.cells #[.int .i64 0, .slice A3 0 c3] 24))); replace HV := Lib.hid (HV.out.step (stepA w3 (.cells #[.int .i64 0, .slice A3 0 c3] 24)))
  have c0 := HG.out.c0
  have c1' := HG.out.c1
  have hsz3 : (w3.alloc (.cells #[.int .i64 0, .slice A3 0 c3] 24)).heap.size = w3.heap.size + 1 := by simp
  have HB := Lib.hid (vals_new' (w3.alloc (.cells #[.int .i64 0, .slice A3 0 c3] 24)) [.int .i64 3, .int .i64 6] 3)
  rw [hsz3] at HB
  clear hsz3
  go_wp2_with fail
  replace HG := Lib.hid (HG.out.step (stepA (w3.alloc (.cells #[.int .i64 0, .slice A3 0 c3] 24)) (.cells #[.int .i64 3, .int .i64 6] 3))); replace HL := Lib.hid (HL.out.step (stepA (w3.alloc (.cells #[.int .i64 0, .slice A3 0 c3] 24)) (.cells #[.int .i64 3, .int .i64 6] 3))); replace HV := Lib.hid (HV.out.step (stepA (w3.alloc (.cells #[.int .i64 0, .slice A3 0 c3] 24)) (.cells #[.int .i64 3, .int .i64 6] 3)))
  refine (HC3.out _ _ HG.out.prs _ HB.out).mono ?_
  rintro e w4 ⟨A4, c4, rfl, hc4, hp4, hb⟩
  replace HG := Lib.hid (HG.out.step hb); replace HL := Lib.hid (HL.out.step hb); replace HV := Lib.hid (HV.out.step hb)
  clear hb c0 c1' HB
  have HH := Lib.hid (GBox.new hc4 hp4)
  simp only at hc4 hp4 HH ⊢
  replace HG := Lib.hid (HG.out.step (stepA w4 (.cells #[.int .i64 3, .slice A4 1 c4] 24))); replace HL := Lib.hid (HL.out.step (stepA w4 (.cells #[.int .i64 3, .slice A4 1 c4] 24))); replace HV := Lib.hid (HV.out.step (stepA w4 (.cells #[.int .i64 3, .slice A4 1 c4] 24)))
  obtain ⟨b1, o1, rfl, q0, q1⟩ := vals_two HV.out.p
  have c0 := HG.out.c0
  have c1' := HG.out.c1
  clear hp4
  go_wp2_with fail
  refine (HC4.out _ _ HG.out.prs).mono ?_
  rintro e w5 ⟨rfl, hb⟩
  replace HG := Lib.hid (HG.out.step hb); replace HL := Lib.hid (HL.out.step hb); replace HV := Lib.hid (HV.out.step hb); replace HH := Lib.hid (HH.out.step hb)
  clear hb c0 c1' q0 q1
  have d0 := HH.out.c0
  have d1 := HH.out.c1
  obtain ⟨b4, o4, rfl, _, q0, q1⟩ := HH.out.prs 0 (6, 3) rfl
  rw [Nat.zero_mul, Nat.add_zero] at q0 q1
  go_wp2_with fail
  go_ret
  exact ⟨rfl, HL.out.b⟩
end Go.Proofs.Ytbdhkagcbncefaa

set_option linter.unusedVariables false
set_option linter.unusedSimpArgs false
namespace Go.Proofs.Ytbdhkagcbncefaa
open Go.RowKit Go.Maps

theorem copyG_len (to fr : Gr) (l : Int) (by_ : List Int) : (copyG to fr l by_).1.as.length ≤ 4000 := by
  by_cases he : (copyG to fr l by_).2.2 = 0
  · have h := copyG_grows he
    obtain ⟨_, _, g3, _⟩ := (size_iff _).1 (right_size h.right)
    omega
  · have : (copyG to fr l by_).1 = noG := by
      unfold copyG at he ⊢
      split
      · rename_i h
        rw [if_pos h] at he
        simp only at he ⊢
        split
        · rename_i h2
          rw [if_pos h2] at he
          exact absurd rfl he
        · rfl
      · rfl
    rw [this]
    show (0 : Nat) ≤ 4000
    omega
theorem fixG_len (g : Gr) (l i : Int) (v : Bool) : (fixG g l i v).1.as.length ≤ 4000 := by
  unfold fixG
  split
  · show (0 : Nat) ≤ 4000
    omega
  · exact copyG_len _ _ _ _

set_option maxRecDepth 100000 in
set_option maxHeartbeats 4000000 in
theorem same3_any (to fr : Gr) (l : Int) (by_ : List Int) (input : Int) (v : Bool) (A A2 A3 : Option Addr) (c c2 c3 : Nat) (w : World) (hto : GOk to) (hfr : GOk fr) (hl : l ≤ 9223372036854775807) (hc : to.as.length ≤ c) (hc2 : fr.as.length ≤ c2) (hpt : Prs w w.heap.size A to.as) (hpf : Prs w w.heap.size A2 fr.as)
    (hby : ∀ x ∈ by_, x ≤ 9223372036854775807) (hbl : by_.length ≤ 140737488355328) (hv : Vals w w.heap.size A3 (i64s by_)) (hi : -9223372036854775808 ≤ input ∧ input ≤ 9223372036854775807) :
    Calls Try.prog 56 #[.agg #[.int .i64 to.n, .slice A to.as.length c], .agg #[.int .i64 fr.n, .slice A2 fr.as.length c2], .int .i64 l, .slice A3 by_.length c3, .int .i64 input, .bool v] w (Ret w (.bool true)) := by
  have hnot := @not_run Try.prog
  have HR1 := Lib.hid (fun (W : World) (h1 : Prs W W.heap.size A to.as) (h2 : Prs W W.heap.size A2 fr.as) (h3 : Vals W W.heap.size A3 (i64s by_)) => ccopy_any to fr l by_ A A2 A3 c c2 c3 W hto hfr hl hc h1 h2 hby hbl h3)
  have HR2 := Lib.hid (fun (W : World) (h1 : Prs W W.heap.size A to.as) (h2 : Prs W W.heap.size A2 fr.as) (h3 : Vals W W.heap.size A3 (i64s by_)) => rcopy_any to fr l by_ A A2 A3 c c2 c3 W hto hfr hl hc h1 h2 hby hbl h3)
  have HR3 := Lib.hid (fun (W : World) (h2 : Prs W W.heap.size A2 fr.as) => cfix_any fr l input v A2 c2 W hfr hl hi hc2 h2)
  have HR4 := Lib.hid (fun (W : World) (h2 : Prs W W.heap.size A2 fr.as) => rfix_any fr l input v A2 c2 W hfr hl hi hc2 h2)
  have HR5 := Lib.hid (fun (W : World) (h2 : Prs W W.heap.size A2 fr.as) => support_any fr l A2 c2 W hfr hl h2)
  have HR6 := Lib.hid (fun (W : World) (h2 : Prs W W.heap.size A2 fr.as) => rsupport_any fr l A2 c2 W hfr hl h2)
  have HR7 := Lib.hid (fun (W : World) (h2 : Prs W W.heap.size A2 fr.as) => cgates_any fr l A2 c2 W hfr hl h2)
  have HR8 := Lib.hid (fun (W : World) (h2 : Prs W W.heap.size A2 fr.as) => rgates_any fr l A2 c2 W hfr hl h2)
  have hlr := copyG_len to fr l by_
  have hls := fixG_len fr l input v
  have hsl : (suppG fr l).length ≤ 140737488355328 := by
    unfold suppG
    split
    · rename_i h
      rw [Bool.and_eq_true] at h
      have := suppAt_length fr l fr.n.toNat
      have := right_vars h.1
      omega
    · simp
  generalize copyG to fr l by_ = r at HR1 HR2 hlr
  generalize fixG fr l input v = s at HR3 HR4 hls
  generalize suppG fr l = q at HR5 HR6 hsl
  generalize gatesG fr l = k at HR7 HR8
  have HT : Hid (GBox ((w.alloc (.cells #[.int .i64 to.n, .slice A to.as.length c] 24)).alloc (.cells #[.int .i64 fr.n, .slice A2 fr.as.length c2] 24)) w.heap.size to A c) := (GBox.new hc hpt).alloc _
  have HF : Hid (GBox ((w.alloc (.cells #[.int .i64 to.n, .slice A to.as.length c] 24)).alloc (.cells #[.int .i64 fr.n, .slice A2 fr.as.length c2] 24)) (w.heap.size + 1) fr A2 c2) := by
    have h := GBox.new (w := w.alloc (.cells #[.int .i64 to.n, .slice A to.as.length c] 24)) hc2 (hpf.after (stepA _ _))
    rw [World.size_alloc] at h
    exact h
  have hb := step2 (stepA w (.cells #[.int .i64 to.n, .slice A to.as.length c] 24)) (stepA _ (.cells #[.int .i64 fr.n, .slice A2 fr.as.length c2] 24))
  have HL := Lib.hid ((Low.refl w).step hb)
  have HV : Hid (ValsF _ A3 (i64s by_)) := ⟨hv.after hb⟩
  have c0 := HT.out.c0
  have c1 := HT.out.c1
  have d0 := HF.out.c0
  have d1 := HF.out.c1
  clear hto hfr hpt hpf hby hv hb
  go_enter Try.func56, Try.ntmps56
  go_wp2_with fail
  refine (HR1.out _ HT.out.prs HF.out.prs HV.out.p).mono ?_
  rintro e w1 ⟨A4, c4, rfl, hc4, hp4, hb⟩
  replace HL := Lib.hid (HL.out.step hb); replace HT := Lib.hid (HT.out.step hb); replace HF := Lib.hid (HF.out.step hb); replace HV := Lib.hid (HV.out.step hb)
  replace HL := Lib.hid (HL.out.step (stepA w1 (.cells #[.int .i64 r.1.n, .slice A4 r.1.as.length c4] 24))); replace HT := Lib.hid (HT.out.step (stepA w1 (.cells #[.int .i64 r.1.n, .slice A4 r.1.as.length c4] 24))); replace HF := Lib.hid (HF.out.step (stepA w1 (.cells #[.int .i64 r.1.n, .slice A4 r.1.as.length c4] 24))); replace HV := Lib.hid (HV.out.step (stepA w1 (.cells #[.int .i64 r.1.n, .slice A4 r.1.as.length c4] 24)))
  have HA := Lib.hid (GBox.new hc4 hp4)
  clear hb hp4 c0 c1 d0 d1 HR1
  have c0 := HT.out.c0
  have c1 := HT.out.c1
  have d0 := HF.out.c0
  have d1 := HF.out.c1
  go_wp2_with fail
  refine (HR2.out _ HT.out.prs HF.out.prs HV.out.p).mono ?_
  rintro e w2 ⟨A5, c5, rfl, hc5, hp5, hb⟩
  replace HL := Lib.hid (HL.out.step hb); replace HF := Lib.hid (HF.out.step hb); replace HA := Lib.hid (HA.out.step hb)
  replace HL := Lib.hid (HL.out.step (stepA w2 (.cells #[.int .i64 r.1.n, .slice A5 r.1.as.length c5] 24))); replace HF := Lib.hid (HF.out.step (stepA w2 (.cells #[.int .i64 r.1.n, .slice A5 r.1.as.length c5] 24))); replace HA := Lib.hid (HA.out.step (stepA w2 (.cells #[.int .i64 r.1.n, .slice A5 r.1.as.length c5] 24)))
  have HB := Lib.hid (GBox.new hc5 hp5)
  clear hb hp5 c0 c1 d0 d1 HR2 HT HV
  have d0 := HF.out.c0
  have d1 := HF.out.c1
  go_wp2_with fail
  refine (HR3.out _ HF.out.prs).mono ?_
  rintro e w3 ⟨A6, c6, rfl, hc6, hp6, hb⟩
  replace HL := Lib.hid (HL.out.step hb); replace HF := Lib.hid (HF.out.step hb); replace HA := Lib.hid (HA.out.step hb); replace HB := Lib.hid (HB.out.step hb)
  replace HL := Lib.hid (HL.out.step (stepA w3 (.cells #[.int .i64 s.1.n, .slice A6 s.1.as.length c6] 24))); replace HF := Lib.hid (HF.out.step (stepA w3 (.cells #[.int .i64 s.1.n, .slice A6 s.1.as.length c6] 24))); replace HA := Lib.hid (HA.out.step (stepA w3 (.cells #[.int .i64 s.1.n, .slice A6 s.1.as.length c6] 24))); replace HB := Lib.hid (HB.out.step (stepA w3 (.cells #[.int .i64 s.1.n, .slice A6 s.1.as.length c6] 24)))
  have HC := Lib.hid (GBox.new hc6 hp6)
  clear hb hp6 d0 d1 HR3
  have d0 := HF.out.c0
  have d1 := HF.out.c1
  go_wp2_with fail
  refine (HR4.out _ HF.out.prs).mono ?_
  rintro e w4 ⟨A7, c7, rfl, hc7, hp7, hb⟩
  replace HL := Lib.hid (HL.out.step hb); replace HF := Lib.hid (HF.out.step hb); replace HA := Lib.hid (HA.out.step hb); replace HB := Lib.hid (HB.out.step hb); replace HC := Lib.hid (HC.out.step hb)
  replace HL := Lib.hid (HL.out.step (stepA w4 (.cells #[.int .i64 s.1.n, .slice A7 s.1.as.length c7] 24))); replace HF := Lib.hid (HF.out.step (stepA w4 (.cells #[.int .i64 s.1.n, .slice A7 s.1.as.length c7] 24))); replace HA := Lib.hid (HA.out.step (stepA w4 (.cells #[.int .i64 s.1.n, .slice A7 s.1.as.length c7] 24))); replace HB := Lib.hid (HB.out.step (stepA w4 (.cells #[.int .i64 s.1.n, .slice A7 s.1.as.length c7] 24))); replace HC := Lib.hid (HC.out.step (stepA w4 (.cells #[.int .i64 s.1.n, .slice A7 s.1.as.length c7] 24)))
  have HD := Lib.hid (GBox.new hc7 hp7)
  clear hb hp7 d0 d1 HR4
  go_wp2_with fail
  replace HL := Lib.hid (HL.out.step (stepD1 _)); replace HF := Lib.hid (HF.out.step (stepD1 _)); replace HA := Lib.hid (HA.out.step (stepD1 _)); replace HB := Lib.hid (HB.out.step (stepD1 _)); replace HC := Lib.hid (HC.out.step (stepD1 _)); replace HD := Lib.hid (HD.out.step (stepD1 _))
  refine wp_region_noPanic ?_
  refine wp_region_seq (fun W => W.cell? ⟨w.heap.size + 1, 0, none⟩ = some (.int .i64 fr.n) ∧ W.cell? ⟨w.heap.size + 1, 1, none⟩ = some (.slice A2 fr.as.length c2) ∧ W.cell? ⟨w1.heap.size, 0, none⟩ = some (.int .i64 r.1.n) ∧ W.cell? ⟨w1.heap.size, 1, none⟩ = some (.slice A4 r.1.as.length c4) ∧ W.cell? ⟨w2.heap.size, 0, none⟩ = some (.int .i64 r.1.n) ∧ W.cell? ⟨w2.heap.size, 1, none⟩ = some (.slice A5 r.1.as.length c5) ∧ W.cell? ⟨w3.heap.size, 0, none⟩ = some (.int .i64 s.1.n) ∧ W.cell? ⟨w3.heap.size, 1, none⟩ = some (.slice A6 s.1.as.length c6) ∧ W.cell? ⟨w4.heap.size, 0, none⟩ = some (.int .i64 s.1.n) ∧ W.cell? ⟨w4.heap.size, 1, none⟩ = some (.slice A7 s.1.as.length c7)) [0, 1, 3, 4, 2, 5, 6, 7, 8, 9, 11, 12, 10, 13, 14, 15, 16, 17, 18, 19, 20, 21, 22, 23, 24, 25, 26, 27, 28, 29, 30, 31, 32, 33, 34, 35, 36, 37, 38, 39, 40, 41, 42, 43, 44, 45, 46] [0, 1, 3, 4, 7, 8, 9, 11, 12, 14, 15, 16, 17, 18, 20, 21, 22, 23, 24, 25, 26, 27, 28, 29, 30, 31, 32, 33, 35, 36, 37, 38, 39, 40, 41, 42, 43, 44, 45, 46] [] (by kernel_rfl) (by kernel_rfl) rfl (by kernel_rfl) (by kernel_rfl) (fun _ _ _ _ _ h => h) ?_ (fun hSS => ?_)
  · exact ⟨HF.out.c0, HF.out.c1, HA.out.c0, HA.out.c1, HB.out.c0, HB.out.c1, HC.out.c0, HC.out.c1, HD.out.c0, HD.out.c1⟩
  clear hSS
  (refine wpSeq_mov rfl rfl ?_; intro o ho; simp only [List.getElem?_toArray, List.getElem?_cons_zero, List.getElem?_cons_succ, Option.some.injEq] at ho; subst ho; refine ⟨?_, Or.inl ⟨by rfl, fun W hSW => ?_⟩, ?_⟩; rotate_left; (focus (go_simp; first | done | with_reducible rfl)); try simp only [Act.put, List.setIfInBounds_toArray, List.set_cons_zero, List.set_cons_succ])
  (refine wpSeq_mov rfl rfl ?_; intro o ho; simp only [List.getElem?_toArray, List.getElem?_cons_zero, List.getElem?_cons_succ, Option.some.injEq] at ho; subst ho; refine ⟨?_, Or.inl ⟨by rfl, fun W hSW => ?_⟩, ?_⟩; rotate_left; (focus (go_simp; first | done | with_reducible rfl)); try simp only [Act.put, List.setIfInBounds_toArray, List.set_cons_zero, List.set_cons_succ])
  (refine wpSeq_mov rfl rfl ?_; intro o ho; simp only [List.getElem?_toArray, List.getElem?_cons_zero, List.getElem?_cons_succ, Option.some.injEq] at ho; subst ho; refine ⟨?_, Or.inl ⟨by rfl, fun W hSW => ?_⟩, ?_⟩; rotate_left; (focus (go_simp; first | done | with_reducible rfl)); try simp only [Act.put, List.setIfInBounds_toArray, List.set_cons_zero, List.set_cons_succ])
  (refine wpSeq_mov rfl rfl ?_; intro o ho; simp only [List.getElem?_toArray, List.getElem?_cons_zero, List.getElem?_cons_succ, Option.some.injEq] at ho; subst ho; refine ⟨?_, Or.inl ⟨by rfl, fun W hSW => ?_⟩, ?_⟩; rotate_left; (focus (go_simp; first | done | with_reducible rfl)); try simp only [Act.put, List.setIfInBounds_toArray, List.set_cons_zero, List.set_cons_succ])
  (refine wpSeq_fix rfl rfl ?_; intro o ho; simp only [List.getElem?_toArray, List.getElem?_cons_zero, List.getElem?_cons_succ, Option.some.injEq] at ho; subst ho; intro K hK)
  go_simp
  refine (HR5.out _ HF.out.prs).mono ?_
  rintro e w5 ⟨A8, c8, rfl, hc8, hv8, hb⟩
  replace HL := Lib.hid (HL.out.step hb); replace HF := Lib.hid (HF.out.step hb); replace HA := Lib.hid (HA.out.step hb); replace HB := Lib.hid (HB.out.step hb); replace HC := Lib.hid (HC.out.step hb); replace HD := Lib.hid (HD.out.step hb)
  have HU : Hid (ValsF w5 A8 (i64s q)) := ⟨hv8⟩
  clear hb hv8
  (refine hK.out _ _ (fun _ => ⟨HF.out.c0, HF.out.c1, HA.out.c0, HA.out.c1, HB.out.c0, HB.out.c1, HC.out.c0, HC.out.c1, HD.out.c0, HD.out.c1⟩) ?_; clear hK K; try simp only [Act.put, List.setIfInBounds_toArray, List.set_cons_zero, List.set_cons_succ])
  (refine wpSeq_fix rfl rfl ?_; intro o ho; simp only [List.getElem?_toArray, List.getElem?_cons_zero, List.getElem?_cons_succ, Option.some.injEq] at ho; subst ho; intro K hK)
  go_simp
  refine (HR6.out _ HF.out.prs).mono ?_
  rintro e w6 ⟨A9, c9, rfl, hc9, hv9, hb⟩
  replace HL := Lib.hid (HL.out.step hb); replace HF := Lib.hid (HF.out.step hb); replace HA := Lib.hid (HA.out.step hb); replace HB := Lib.hid (HB.out.step hb); replace HC := Lib.hid (HC.out.step hb); replace HD := Lib.hid (HD.out.step hb); replace HU := Lib.hid (HU.out.step hb)
  have HX : Hid (ValsF w6 A9 (i64s q)) := ⟨hv9⟩
  clear hb hv9
  (refine hK.out _ _ (fun _ => ⟨HF.out.c0, HF.out.c1, HA.out.c0, HA.out.c1, HB.out.c0, HB.out.c1, HC.out.c0, HC.out.c1, HD.out.c0, HD.out.c1⟩) ?_; clear hK K; try simp only [Act.put, List.setIfInBounds_toArray, List.set_cons_zero, List.set_cons_succ])
  (refine wpSeq_fix rfl rfl ?_; intro o ho; simp only [List.getElem?_toArray, List.getElem?_cons_zero, List.getElem?_cons_succ, Option.some.injEq] at ho; subst ho; intro K hK)
  go_simp
  refine (sameInts_any q A8 A9 c8 c9 _ hsl HU.out.p HX.out.p).mono ?_
  rintro e w7 ⟨rfl, hb⟩
  replace HL := Lib.hid (HL.out.step hb); replace HF := Lib.hid (HF.out.step hb); replace HA := Lib.hid (HA.out.step hb); replace HB := Lib.hid (HB.out.step hb); replace HC := Lib.hid (HC.out.step hb); replace HD := Lib.hid (HD.out.step hb)
  clear hb HU HX
  (refine hK.out _ _ (fun _ => ⟨HF.out.c0, HF.out.c1, HA.out.c0, HA.out.c1, HB.out.c0, HB.out.c1, HC.out.c0, HC.out.c1, HD.out.c0, HD.out.c1⟩) ?_; clear hK K; try simp only [Act.put, List.setIfInBounds_toArray, List.set_cons_zero, List.set_cons_succ])
  (refine wpSeq_mov rfl rfl ?_; intro o ho; simp only [List.getElem?_toArray, List.getElem?_cons_zero, List.getElem?_cons_succ, Option.some.injEq] at ho; subst ho; refine ⟨?_, Or.inl ⟨by rfl, fun W hSW => ?_⟩, ?_⟩; rotate_left; (focus (go_simp; first | done | with_reducible rfl)); try simp only [Act.put, List.setIfInBounds_toArray, List.set_cons_zero, List.set_cons_succ])
  (refine wpSeq_mov rfl rfl ?_; intro o ho; simp only [List.getElem?_toArray, List.getElem?_cons_zero, List.getElem?_cons_succ, Option.some.injEq] at ho; subst ho; refine ⟨?_, Or.inl ⟨by rfl, fun W hSW => ?_⟩, ?_⟩; rotate_left; (focus (go_simp; first | done | with_reducible rfl)); try simp only [Act.put, List.setIfInBounds_toArray, List.set_cons_zero, List.set_cons_succ])
  (refine wpSeq_mov rfl rfl ?_; intro o ho; simp only [List.getElem?_toArray, List.getElem?_cons_zero, List.getElem?_cons_succ, Option.some.injEq] at ho; subst ho; refine ⟨?_, Or.inl ⟨by rfl, fun W hSW => ?_⟩, ?_⟩; rotate_left; (focus (go_simp; first | done | with_reducible rfl)); try simp only [Act.put, List.setIfInBounds_toArray, List.set_cons_zero, List.set_cons_succ])
  (refine wpSeq_mov rfl rfl ?_; intro o ho; simp only [List.getElem?_toArray, List.getElem?_cons_zero, List.getElem?_cons_succ, Option.some.injEq] at ho; subst ho; refine ⟨?_, Or.inl ⟨by rfl, fun W hSW => ?_⟩, ?_⟩; rotate_left; (focus (go_simp; first | done | with_reducible rfl)); try simp only [Act.put, List.setIfInBounds_toArray, List.set_cons_zero, List.set_cons_succ])
  (refine wpSeq_mov rfl rfl ?_; intro o ho; simp only [List.getElem?_toArray, List.getElem?_cons_zero, List.getElem?_cons_succ, Option.some.injEq] at ho; subst ho; refine ⟨?_, Or.inl ⟨by rfl, fun W hSW => ?_⟩, ?_⟩; rotate_left; (focus (go_simp; first | done | with_reducible rfl)); try simp only [Act.put, List.setIfInBounds_toArray, List.set_cons_zero, List.set_cons_succ])
  (refine wpSeq_fix rfl rfl ?_; intro o ho; simp only [List.getElem?_toArray, List.getElem?_cons_zero, List.getElem?_cons_succ, Option.some.injEq] at ho; subst ho; intro K hK)
  go_simp
  refine (HR7.out _ HF.out.prs).mono ?_
  rintro e w8 ⟨rfl, hb⟩
  replace HL := Lib.hid (HL.out.step hb); replace HF := Lib.hid (HF.out.step hb); replace HA := Lib.hid (HA.out.step hb); replace HB := Lib.hid (HB.out.step hb); replace HC := Lib.hid (HC.out.step hb); replace HD := Lib.hid (HD.out.step hb)
  clear hb
  (refine hK.out _ _ (fun _ => ⟨HF.out.c0, HF.out.c1, HA.out.c0, HA.out.c1, HB.out.c0, HB.out.c1, HC.out.c0, HC.out.c1, HD.out.c0, HD.out.c1⟩) ?_; clear hK K; try simp only [Act.put, List.setIfInBounds_toArray, List.set_cons_zero, List.set_cons_succ])
  (refine wpSeq_fix rfl rfl ?_; intro o ho; simp only [List.getElem?_toArray, List.getElem?_cons_zero, List.getElem?_cons_succ, Option.some.injEq] at ho; subst ho; intro K hK)
  go_simp
  refine (HR8.out _ HF.out.prs).mono ?_
  rintro e w9 ⟨rfl, hb⟩
  replace HL := Lib.hid (HL.out.step hb); replace HF := Lib.hid (HF.out.step hb); replace HA := Lib.hid (HA.out.step hb); replace HB := Lib.hid (HB.out.step hb); replace HC := Lib.hid (HC.out.step hb); replace HD := Lib.hid (HD.out.step hb)
  clear hb
  (refine hK.out _ _ (fun _ => ⟨HF.out.c0, HF.out.c1, HA.out.c0, HA.out.c1, HB.out.c0, HB.out.c1, HC.out.c0, HC.out.c1, HD.out.c0, HD.out.c1⟩) ?_; clear hK K; try simp only [Act.put, List.setIfInBounds_toArray, List.set_cons_zero, List.set_cons_succ])
  (refine wpSeq_mov rfl rfl ?_; intro o ho; simp only [List.getElem?_toArray, List.getElem?_cons_zero, List.getElem?_cons_succ, Option.some.injEq] at ho; subst ho; refine ⟨?_, Or.inl ⟨by rfl, fun W hSW => ?_⟩, ?_⟩; rotate_left; (focus (go_simp; first | done | with_reducible rfl)); try simp only [Act.put, List.setIfInBounds_toArray, List.set_cons_zero, List.set_cons_succ])
  (refine wpSeq_mov rfl rfl ?_; intro o ho; simp only [List.getElem?_toArray, List.getElem?_cons_zero, List.getElem?_cons_succ, Option.some.injEq] at ho; subst ho; refine ⟨?_, Or.inl ⟨by rfl, fun W hSW => ?_⟩, ?_⟩; rotate_left; (focus (go_simp; first | done | with_reducible rfl)); try simp only [Act.put, List.setIfInBounds_toArray, List.set_cons_zero, List.set_cons_succ])
  (refine wpSeq_mov rfl rfl ?_; intro o ho; simp only [List.getElem?_toArray, List.getElem?_cons_zero, List.getElem?_cons_succ, Option.some.injEq] at ho; subst ho; refine ⟨?_, Or.inl ⟨by rfl, fun W hSW => ?_⟩, ?_⟩; rotate_left; (focus (go_simp; first | done | with_reducible rfl)); try simp only [Act.put, List.setIfInBounds_toArray, List.set_cons_zero, List.set_cons_succ])
  (refine wpSeq_mov rfl rfl ?_; intro o ho; simp only [List.getElem?_toArray, List.getElem?_cons_zero, List.getElem?_cons_succ, Option.some.injEq] at ho; subst ho; refine ⟨?_, Or.inl ⟨by rfl, fun W hSW => ?_⟩, ?_⟩; rotate_left; (focus (go_simp; first | done | with_reducible rfl)); try simp only [Act.put, List.setIfInBounds_toArray, List.set_cons_zero, List.set_cons_succ])
  (refine wpSeq_mov rfl rfl ?_; intro o ho; simp only [List.getElem?_toArray, List.getElem?_cons_zero, List.getElem?_cons_succ, Option.some.injEq] at ho; subst ho; refine ⟨?_, Or.inl ⟨by rfl, fun W hSW => ?_⟩, ?_⟩; rotate_left; (focus (go_simp; first | done | with_reducible rfl)); try simp only [Act.put, List.setIfInBounds_toArray, List.set_cons_zero, List.set_cons_succ])
  (refine wpSeq_fix rfl rfl ?_; intro o ho; simp only [List.getElem?_toArray, List.getElem?_cons_zero, List.getElem?_cons_succ, Option.some.injEq] at ho; subst ho; intro K hK)
  go_simp
  refine (same_any r.1 A4 A5 c4 c5 _ hlr HA.out.prs HB.out.prs).mono ?_
  rintro e w10 ⟨rfl, hb⟩
  replace HL := Lib.hid (HL.out.step hb); replace HF := Lib.hid (HF.out.step hb); replace HA := Lib.hid (HA.out.step hb); replace HB := Lib.hid (HB.out.step hb); replace HC := Lib.hid (HC.out.step hb); replace HD := Lib.hid (HD.out.step hb)
  clear hb
  (refine hK.out _ _ (fun _ => ⟨HF.out.c0, HF.out.c1, HA.out.c0, HA.out.c1, HB.out.c0, HB.out.c1, HC.out.c0, HC.out.c1, HD.out.c0, HD.out.c1⟩) ?_; clear hK K; try simp only [Act.put, List.setIfInBounds_toArray, List.set_cons_zero, List.set_cons_succ])
  (refine wpSeq_mov rfl rfl ?_; intro o ho; simp only [List.getElem?_toArray, List.getElem?_cons_zero, List.getElem?_cons_succ, Option.some.injEq] at ho; subst ho; refine ⟨?_, Or.inl ⟨by rfl, fun W hSW => ?_⟩, ?_⟩; rotate_left; (focus (go_simp; first | done | with_reducible rfl)); try simp only [Act.put, List.setIfInBounds_toArray, List.set_cons_zero, List.set_cons_succ])
  (refine wpSeq_mov rfl rfl ?_; intro o ho; simp only [List.getElem?_toArray, List.getElem?_cons_zero, List.getElem?_cons_succ, Option.some.injEq] at ho; subst ho; refine ⟨?_, Or.inl ⟨by rfl, fun W hSW => ?_⟩, ?_⟩; rotate_left; (focus (go_simp; first | done | with_reducible rfl)); try simp only [Act.put, List.setIfInBounds_toArray, List.set_cons_zero, List.set_cons_succ])
  (refine wpSeq_mov rfl rfl ?_; intro o ho; simp only [List.getElem?_toArray, List.getElem?_cons_zero, List.getElem?_cons_succ, Option.some.injEq] at ho; subst ho; refine ⟨?_, Or.inl ⟨by rfl, fun W hSW => ?_⟩, ?_⟩; rotate_left; (focus (go_simp; first | done | with_reducible rfl)); try simp only [Act.put, List.setIfInBounds_toArray, List.set_cons_zero, List.set_cons_succ])
  (refine wpSeq_mov rfl rfl ?_; intro o ho; simp only [List.getElem?_toArray, List.getElem?_cons_zero, List.getElem?_cons_succ, Option.some.injEq] at ho; subst ho; refine ⟨?_, Or.inl ⟨by rfl, fun W hSW => ?_⟩, ?_⟩; rotate_left; (focus (go_simp; first | done | with_reducible rfl)); try simp only [Act.put, List.setIfInBounds_toArray, List.set_cons_zero, List.set_cons_succ])
  (refine wpSeq_mov rfl rfl ?_; intro o ho; simp only [List.getElem?_toArray, List.getElem?_cons_zero, List.getElem?_cons_succ, Option.some.injEq] at ho; subst ho; refine ⟨?_, Or.inl ⟨by rfl, fun W hSW => ?_⟩, ?_⟩; rotate_left; (focus (go_simp; first | done | with_reducible rfl)); try simp only [Act.put, List.setIfInBounds_toArray, List.set_cons_zero, List.set_cons_succ])
  (refine wpSeq_mov rfl rfl ?_; intro o ho; simp only [List.getElem?_toArray, List.getElem?_cons_zero, List.getElem?_cons_succ, Option.some.injEq] at ho; subst ho; refine ⟨?_, Or.inl ⟨by rfl, fun W hSW => ?_⟩, ?_⟩; rotate_left; (focus (go_simp; first | done | with_reducible rfl)); try simp only [Act.put, List.setIfInBounds_toArray, List.set_cons_zero, List.set_cons_succ])
  (refine wpSeq_mov rfl rfl ?_; intro o ho; simp only [List.getElem?_toArray, List.getElem?_cons_zero, List.getElem?_cons_succ, Option.some.injEq] at ho; subst ho; refine ⟨?_, Or.inl ⟨by rfl, fun W hSW => ?_⟩, ?_⟩; rotate_left; (focus (go_simp; first | done | with_reducible rfl)); try simp only [Act.put, List.setIfInBounds_toArray, List.set_cons_zero, List.set_cons_succ])
  (refine wpSeq_mov rfl rfl ?_; intro o ho; simp only [List.getElem?_toArray, List.getElem?_cons_zero, List.getElem?_cons_succ, Option.some.injEq] at ho; subst ho; refine ⟨?_, Or.inl ⟨by rfl, fun W hSW => ?_⟩, ?_⟩; rotate_left; (focus (go_simp; first | done | with_reducible rfl)); try simp only [Act.put, List.setIfInBounds_toArray, List.set_cons_zero, List.set_cons_succ])
  (refine wpSeq_mov rfl rfl ?_; intro o ho; simp only [List.getElem?_toArray, List.getElem?_cons_zero, List.getElem?_cons_succ, Option.some.injEq] at ho; subst ho; refine ⟨?_, Or.inl ⟨by rfl, fun W hSW => ?_⟩, ?_⟩; rotate_left; (focus (go_simp; first | done | with_reducible rfl)); try simp only [Act.put, List.setIfInBounds_toArray, List.set_cons_zero, List.set_cons_succ])
  (refine wpSeq_mov rfl rfl ?_; intro o ho; simp only [List.getElem?_toArray, List.getElem?_cons_zero, List.getElem?_cons_succ, Option.some.injEq] at ho; subst ho; refine ⟨?_, Or.inl ⟨by rfl, fun W hSW => ?_⟩, ?_⟩; rotate_left; (focus (go_simp; first | done | with_reducible rfl)); try simp only [Act.put, List.setIfInBounds_toArray, List.set_cons_zero, List.set_cons_succ])
  (refine wpSeq_mov rfl rfl ?_; intro o ho; simp only [List.getElem?_toArray, List.getElem?_cons_zero, List.getElem?_cons_succ, Option.some.injEq] at ho; subst ho; refine ⟨?_, Or.inl ⟨by rfl, fun W hSW => ?_⟩, ?_⟩; rotate_left; (focus (go_simp; first | done | with_reducible rfl)); try simp only [Act.put, List.setIfInBounds_toArray, List.set_cons_zero, List.set_cons_succ])
  (refine wpSeq_mov rfl rfl ?_; intro o ho; simp only [List.getElem?_toArray, List.getElem?_cons_zero, List.getElem?_cons_succ, Option.some.injEq] at ho; subst ho; refine ⟨?_, Or.inl ⟨by rfl, fun W hSW => ?_⟩, ?_⟩; rotate_left; (focus (go_simp; first | done | with_reducible rfl)); try simp only [Act.put, List.setIfInBounds_toArray, List.set_cons_zero, List.set_cons_succ])
  (refine wpSeq_mov rfl rfl ?_; intro o ho; simp only [List.getElem?_toArray, List.getElem?_cons_zero, List.getElem?_cons_succ, Option.some.injEq] at ho; subst ho; refine ⟨?_, Or.inl ⟨by rfl, fun W hSW => ?_⟩, ?_⟩; rotate_left; (focus (go_simp; first | done | with_reducible rfl)); try simp only [Act.put, List.setIfInBounds_toArray, List.set_cons_zero, List.set_cons_succ])
  (refine wpSeq_mov rfl rfl ?_; intro o ho; simp only [List.getElem?_toArray, List.getElem?_cons_zero, List.getElem?_cons_succ, Option.some.injEq] at ho; subst ho; refine ⟨?_, Or.inl ⟨by rfl, fun W hSW => ?_⟩, ?_⟩; rotate_left; (focus (go_simp; first | done | with_reducible rfl)); try simp only [Act.put, List.setIfInBounds_toArray, List.set_cons_zero, List.set_cons_succ])
  (refine wpSeq_fix rfl rfl ?_; intro o ho; simp only [List.getElem?_toArray, List.getElem?_cons_zero, List.getElem?_cons_succ, Option.some.injEq] at ho; subst ho; intro K hK)
  go_simp
  refine (same_any s.1 A6 A7 c6 c7 _ hls HC.out.prs HD.out.prs).mono ?_
  rintro e w11 ⟨rfl, hb⟩
  replace HL := Lib.hid (HL.out.step hb); replace HF := Lib.hid (HF.out.step hb); replace HA := Lib.hid (HA.out.step hb); replace HB := Lib.hid (HB.out.step hb); replace HC := Lib.hid (HC.out.step hb); replace HD := Lib.hid (HD.out.step hb)
  clear hb
  (refine hK.out _ _ (fun _ => ⟨HF.out.c0, HF.out.c1, HA.out.c0, HA.out.c1, HB.out.c0, HB.out.c1, HC.out.c0, HC.out.c1, HD.out.c0, HD.out.c1⟩) ?_; clear hK K; try simp only [Act.put, List.setIfInBounds_toArray, List.set_cons_zero, List.set_cons_succ])
  (refine wpSeq_mov rfl rfl ?_; intro o ho; simp only [List.getElem?_toArray, List.getElem?_cons_zero, List.getElem?_cons_succ, Option.some.injEq] at ho; subst ho; refine ⟨?_, Or.inl ⟨by rfl, fun W hSW => ?_⟩, ?_⟩; rotate_left; (focus (go_simp; first | done | with_reducible rfl)); try simp only [Act.put, List.setIfInBounds_toArray, List.set_cons_zero, List.set_cons_succ])
  (refine wpSeq_mov rfl rfl ?_; intro o ho; simp only [List.getElem?_toArray, List.getElem?_cons_zero, List.getElem?_cons_succ, Option.some.injEq] at ho; subst ho; refine ⟨?_, Or.inl ⟨by rfl, fun W hSW => ?_⟩, ?_⟩; rotate_left; (focus (go_simp; first | done | with_reducible rfl)); try simp only [Act.put, List.setIfInBounds_toArray, List.set_cons_zero, List.set_cons_succ])
  (refine wpSeq_mov rfl rfl ?_; intro o ho; simp only [List.getElem?_toArray, List.getElem?_cons_zero, List.getElem?_cons_succ, Option.some.injEq] at ho; subst ho; refine ⟨?_, Or.inl ⟨by rfl, fun W hSW => ?_⟩, ?_⟩; rotate_left; (focus (go_simp; first | done | with_reducible rfl)); try simp only [Act.put, List.setIfInBounds_toArray, List.set_cons_zero, List.set_cons_succ])
  (refine wpSeq_mov rfl rfl ?_; intro o ho; simp only [List.getElem?_toArray, List.getElem?_cons_zero, List.getElem?_cons_succ, Option.some.injEq] at ho; subst ho; refine ⟨?_, Or.inl ⟨by rfl, fun W hSW => ?_⟩, ?_⟩; rotate_left; (focus (go_simp; first | done | with_reducible rfl)); try simp only [Act.put, List.setIfInBounds_toArray, List.set_cons_zero, List.set_cons_succ])
  (refine wpSeq_mov rfl rfl ?_; intro o ho; simp only [List.getElem?_toArray, List.getElem?_cons_zero, List.getElem?_cons_succ, Option.some.injEq] at ho; subst ho; refine ⟨?_, Or.inl ⟨by rfl, fun W hSW => ?_⟩, ?_⟩; rotate_left; (focus (go_simp; first | done | with_reducible rfl)); try simp only [Act.put, List.setIfInBounds_toArray, List.set_cons_zero, List.set_cons_succ])
  (refine wpSeq_mov rfl rfl ?_; intro o ho; simp only [List.getElem?_toArray, List.getElem?_cons_zero, List.getElem?_cons_succ, Option.some.injEq] at ho; subst ho; refine ⟨?_, Or.inl ⟨by rfl, fun W hSW => ?_⟩, ?_⟩; rotate_left; (focus (go_simp; first | done | with_reducible rfl)); try simp only [Act.put, List.setIfInBounds_toArray, List.set_cons_zero, List.set_cons_succ])
  (refine wpSeq_mov rfl rfl ?_; intro o ho; simp only [List.getElem?_toArray, List.getElem?_cons_zero, List.getElem?_cons_succ, Option.some.injEq] at ho; subst ho; refine ⟨?_, Or.inl ⟨by rfl, fun W hSW => ?_⟩, ?_⟩; rotate_left; (focus (go_simp; first | done | with_reducible rfl)); try simp only [Act.put, List.setIfInBounds_toArray, List.set_cons_zero, List.set_cons_succ])
  (refine wpSeq_mov rfl rfl ?_; intro o ho; simp only [List.getElem?_toArray, List.getElem?_cons_zero, List.getElem?_cons_succ, Option.some.injEq] at ho; subst ho; refine ⟨?_, Or.inl ⟨by rfl, fun W hSW => ?_⟩, ?_⟩; rotate_left; (focus (go_simp; first | done | with_reducible rfl)); try simp only [Act.put, List.setIfInBounds_toArray, List.set_cons_zero, List.set_cons_succ])
  (refine wpSeq_mov rfl rfl ?_; intro o ho; simp only [List.getElem?_toArray, List.getElem?_cons_zero, List.getElem?_cons_succ, Option.some.injEq] at ho; subst ho; refine ⟨?_, Or.inl ⟨by rfl, fun W hSW => ?_⟩, ?_⟩; rotate_left; (focus (go_simp; first | done | with_reducible rfl)); try simp only [Act.put, List.setIfInBounds_toArray, List.set_cons_zero, List.set_cons_succ])
  (refine wpSeq_mov rfl rfl ?_; intro o ho; simp only [List.getElem?_toArray, List.getElem?_cons_zero, List.getElem?_cons_succ, Option.some.injEq] at ho; subst ho; refine ⟨?_, Or.inl ⟨by rfl, fun W hSW => ?_⟩, ?_⟩; rotate_left; (focus (go_simp; first | done | with_reducible rfl)); try simp only [Act.put, List.setIfInBounds_toArray, List.set_cons_zero, List.set_cons_succ])
  (refine wpSeq_mov rfl rfl ?_; intro o ho; simp only [List.getElem?_toArray, List.getElem?_cons_zero, List.getElem?_cons_succ, Option.some.injEq] at ho; subst ho; refine ⟨?_, Or.inl ⟨by rfl, fun W hSW => ?_⟩, ?_⟩; rotate_left; (focus (go_simp; first | done | with_reducible rfl)); try simp only [Act.put, List.setIfInBounds_toArray, List.set_cons_zero, List.set_cons_succ])
  (refine wpSeq_mov rfl rfl ?_; intro o ho; simp only [List.getElem?_toArray, List.getElem?_cons_zero, List.getElem?_cons_succ, Option.some.injEq] at ho; subst ho; refine ⟨?_, Or.inl ⟨by rfl, fun W hSW => ?_⟩, ?_⟩; rotate_left; (focus (go_simp; first | done | with_reducible rfl)); try simp only [Act.put, List.setIfInBounds_toArray, List.set_cons_zero, List.set_cons_succ])
  refine wpSeq_done ?_
  go_wp2_with fail
  go_ret
  exact ⟨rfl, HL.out.b⟩
end Go.Proofs.Ytbdhkagcbncefaa

set_option linter.unusedVariables false
set_option linter.unusedSimpArgs false
namespace Go.Proofs.Ytbdhkagcbncefaa

/-! ### A copy into the same graph -/
theorem turnP_self {q : Int} (h : 0 ≤ q) : turnP (2 * (q / 2)) q = q := by
  unfold turnP flip
  split
  · rw [if_pos (by omega)]
    omega
  · omega

theorem andG_gate {g : Gr} (hr : rightB g = true) {k : Nat} {p : Pr} (h : g.as[k]? = some p) : andG g p.1 p.2 = (g, 2 * (g.n + 1 + k), 0) := by
  obtain ⟨m1, m2, m3⟩ := gate_less hr h
  have hk := (List.getElem?_eq_some_iff.1 h).1
  obtain ⟨_, _, hnd⟩ := (right_iff g).1 hr
  have l1 : litB g p.1 = true := lit_of hr (by omega) (by unfold Gr.vars; omega)
  have l2 : litB g p.2 = true := lit_of hr (by omega) (by unfold Gr.vars; omega)
  unfold andG
  rw [hr, l1, l2]
  simp only [Bool.and_self, if_true]
  rw [Int.max_eq_left (by omega), Int.min_eq_right (by omega)]
  unfold andHi
  have ht : trivG p.1 p.2 = none := by
    unfold trivG
    rw [if_neg (by omega), if_neg (by omega)]
  rw [ht]
  simp only
  rw [show ((p.1, p.2) : Pr) = p from rfl, placeOf_at hnd h]

theorem copyAt_self {g : Gr} {l : Int} (hr : rightB g = true) (hl : litB g l = true) : ∀ k, k ≤ g.as.length → ∃ L, copyAt g g l (evens g.n.toNat) k = (g, L, 0) ∧ L.length = g.n.toNat + 1 + k ∧ ∀ v : Nat, v < g.n.toNat + 1 + k → ((v : Int) ≤ g.n ∨ (belowG g l)[v]? = some true) → L[v]? = some (2 * (v : Int))
  | 0, _ => by
    refine ⟨0 :: evens g.n.toNat, rfl, by simp [evens_length] <;> omega, fun v hv _ => ?_⟩
    match v, hv with
    | 0, _ => rfl
    | v + 1, hv =>
      rw [List.getElem?_cons_succ]
      unfold evens
      rw [List.getElem?_map, List.getElem?_range (by omega)]
      simp
  | k + 1, hk => by
    obtain ⟨L, e, hlen, hat⟩ := copyAt_self hr hl k (by omega)
    have hp := List.getElem?_eq_getElem (by omega : k < g.as.length)
    obtain ⟨m1, m2, m3⟩ := gate_less hr hp
    have n0 := (right_vars hr).1
    obtain ⟨bit, hbit⟩ : ∃ y, (belowG g l)[(g.n + 1 + (k : Int)).toNat]? = some y := ⟨_, List.getElem?_eq_getElem (by rw [belowG_length]; unfold Gr.vars; omega)⟩
    have he : (copyAt g g l (evens g.n.toNat) k).2.2 = 0 := by rw [e]
    have hgate : ∀ v : Nat, ¬ v < L.length → v < g.n.toNat + 1 + (k + 1) → v = L.length := fun v h1 h2 => by omega
    have hLv : ((L.length : Nat) : Int) = g.n + 1 + k := by omega
    cases bit
    · refine ⟨L ++ [0], ?_, by simp [hlen] <;> omega, fun v hv hm => ?_⟩
      · rw [copyAt_no hp hbit he, e]
      · by_cases hvl : v < L.length
        · rw [List.getElem?_append_left hvl]
          exact hat v (by omega) hm
        · obtain rfl := hgate v hvl hv
          rcases hm with h | h
          · omega
          · rw [show L.length = (g.n + 1 + (k : Int)).toNat by omega, hbit] at h
            cases h
    · obtain ⟨b1, b2⟩ := below_gate hr l hp hbit
      have hlit : ∀ q : Int, 0 ≤ q → q / 2 < g.n + 1 + k → (belowG g l)[(q / 2).toNat]? = some true → litI L q = q := fun q q0 q1 qm => by
        rw [litI_eq (hat _ (by omega) (.inr qm)), show (((q / 2).toNat : Nat) : Int) = q / 2 from by omega]
        exact turnP_self q0
      have hand : andG (copyAt g g l (evens g.n.toNat) k).1 (litI (copyAt g g l (evens g.n.toNat) k).2.1 (g.as[k]).1) (litI (copyAt g g l (evens g.n.toNat) k).2.1 (g.as[k]).2) = (g, 2 * (g.n + 1 + k), 0) := by
        rw [e]
        simp only
        rw [hlit _ (by omega) (by omega) b1, hlit _ (by omega) (by omega) b2]
        exact andG_gate hr hp
      refine ⟨L ++ [2 * (g.n + 1 + k)], ?_, by simp [hlen] <;> omega, fun v hv hm => ?_⟩
      · rw [copyAt_yes hp hbit he (by rw [hand]), hand, e]
      · by_cases hvl : v < L.length
        · rw [List.getElem?_append_left hvl]
          exact hat v (by omega) hm
        · obtain rfl := hgate v hvl hv
          rw [List.getElem?_concat_length, hLv]

theorem copyOk_self {g : Gr} {l : Int} (hr : rightB g = true) (hl : litB g l = true) : copyOk g g l (evens g.n.toNat) = true := by
  have n0 := (right_vars hr).1
  refine copyOk_iff.2 ⟨hr, hr, hl, by rw [evens_length]; omega, fun x hx => ?_⟩
  unfold evens at hx
  obtain ⟨i, hi, rfl⟩ := List.mem_map.1 hx
  have := List.mem_range.1 hi
  exact lit_of hr (by omega) (by unfold Gr.vars; omega)

theorem copyG_self {g : Gr} {l : Int} (hr : rightB g = true) (hl : litB g l = true) : copyG g g l (evens g.n.toNat) = (g, l, 0) := by
  obtain ⟨L, e, hlen, hat⟩ := copyAt_self hr hl g.as.length (Nat.le_refl _)
  obtain ⟨n0, _, l0, l1⟩ := (litB_iff g l).1 hl
  rw [copyG_done (copyOk_self hr hl) (by rw [e]), e]
  simp only
  rw [litI_eq (hat (l / 2).toNat (by omega) (.inr (below_self hl))), show (((l / 2).toNat : Nat) : Int) = l / 2 from by omega, turnP_self l0]

/-! ### Inputs that are fixed -/
theorem fixBy_at {n : Nat} {input : Int} {v : Bool} {i : Nat} {y : Int} (h : (fixBy n input v)[i]? = some y) : i < n ∧ ((((i : Int) + 1 = input) ∧ y = if v then 1 else 0) ∨ ((i : Int) + 1 ≠ input ∧ y = 2 * ((i : Int) + 1))) := by
  have hi := (List.getElem?_eq_some_iff.1 h).1
  rw [fixBy_length] at hi
  unfold fixBy at h
  rw [List.getElem?_map, List.getElem?_range hi] at h
  simp only [Option.map_some, Option.some.injEq] at h
  refine ⟨hi, ?_⟩
  split at h
  · rename_i e
    exact .inl ⟨e, h.symm⟩
  · rename_i e
    exact .inr ⟨e, h.symm⟩

theorem copyOk_fix {g : Gr} {l input : Int} {v : Bool} (hr : rightB g = true) (hl : litB g l = true) : copyOk g g l (fixBy g.n.toNat input v) = true := by
  have n0 := (right_vars hr).1
  refine copyOk_iff.2 ⟨hr, hr, hl, by rw [fixBy_length]; omega, fun x hx => ?_⟩
  obtain ⟨i, hi⟩ := List.getElem?_of_mem hx
  obtain ⟨hin, h | h⟩ := fixBy_at hi
  · rw [h.2]
    have := (right_vars hr).2.2.2
    split
    · exact lit_of hr (by omega) (by omega)
    · exact lit_of hr (by omega) (by omega)
  · rw [h.2]
    exact lit_of hr (by omega) (by unfold Gr.vars; omega)

/-- What comes of an input that is fixed. -/
structure Fixed (g : Gr) (l input : Int) (v : Bool) (h : Gr) (a : Int) : Prop where
  is : fixG g l input v = (h, a, 0)
  grows : Grows g h a g.as.length
  und : ∀ u : Int, 1 ≤ u → u ≤ g.n → Und h (a / 2) u → u ≠ input ∧ Und g (l / 2) u
  sem : ∀ xs : List Bool, (xs.length : Int) = g.n → evalG h a xs = evalG g l (xs.set (input - 1).toNat v)

theorem byVals_fix {g : Gr} {xs : List Bool} {input : Int} {v : Bool} (hn : (xs.length : Int) = g.n) (h1 : 1 ≤ input) (h2 : input ≤ g.n) : byVals g xs (fixBy g.n.toNat input v) = xs.set (input - 1).toNat v := by
  unfold byVals fixBy
  apply List.ext_getElem?
  intro i
  rw [List.getElem?_map, List.getElem?_map, List.getElem?_set]
  by_cases hi : i < xs.length
  · rw [List.getElem?_range (by omega)]
    simp only [Option.map_some]
    by_cases e : (input - 1).toNat = i
    · rw [if_pos e, if_pos (show (input - 1).toNat < xs.length by omega), if_pos (show (i : Int) + 1 = input by omega)]
      cases v
      · exact congrArg some (litV_zero g xs)
      · exact congrArg some (litV_one g xs)
    · rw [if_neg e, if_neg (show ¬ (i : Int) + 1 = input by omega), List.getElem?_eq_getElem hi, litV_input (List.getElem?_eq_getElem hi)]
  · rw [List.getElem?_eq_none (by simp; omega)]
    by_cases e : (input - 1).toNat = i
    · rw [if_pos e, if_neg (show ¬ (input - 1).toNat < xs.length by omega)]
      rfl
    · rw [if_neg e, List.getElem?_eq_none (by omega)]
      rfl

theorem fixed_of {g : Gr} {l input : Int} {v : Bool} (hr : rightB g = true) (hl : litB g l = true) (h1 : 1 ≤ input) (h2 : input ≤ g.n) (hv : g.vars + g.as.length ≤ 2000) : ∃ h a, Fixed g l input v h a := by
  have n2 := (right_vars hr).2.1
  have hok := copyOk_fix (input := input) (v := v) hr hl
  have he := copyG_room hok hv
  have hy : fixG g l input v = copyG g g l (fixBy g.n.toNat input v) := fixG_yes (by omega)
  have hg := copyG_grows he
  refine ⟨(copyG g g l (fixBy g.n.toNat input v)).1, (copyG g g l (fixBy g.n.toNat input v)).2.1, ?_, hg, ?_, ?_⟩
  · rw [hy, ← he]
  · intro u u1 u2 hu
    obtain ⟨i, y, y1, y2, y3⟩ := copyG_und he u1 u2 hu
    obtain ⟨hin, h | h⟩ := fixBy_at y1
    · exfalso
      have := und_low hr y3
      rw [h.2] at this
      split at this <;> omega
    · rw [h.2, show 2 * ((i : Int) + 1) / 2 = (i : Int) + 1 from by omega] at y3
      have := und_input hr y3 (by omega)
      subst this
      exact ⟨h.1, y2⟩
  · intro xs hn
    have hs := copyG_sem hn he
    rw [byVals_fix hn h1 h2] at hs
    rw [evalG_is hg.right (hg.len hn) hg.lit, evalG_is hr (by rw [List.length_set]; exact hn) hl]
    exact hs

theorem Fixed.supp {g h : Gr} {l input a : Int} {v : Bool} (hf : Fixed g l input v h a) (x : Int) (hx : x ∈ suppG h a) : x ≠ input ∧ Und g (l / 2) x := by
  obtain ⟨h1, h2, h3⟩ := (suppG_iff hf.grows.right hf.grows.lit x).1 hx
  exact hf.und x h1 (by rw [← hf.grows.n]; exact h2) h3

theorem suppAt_short {g : Gr} {l : Int} {x y : Nat} (hx : (belowG g l)[x + 1]? ≠ some true) (hy : (belowG g l)[y + 1]? ≠ some true) (hne : x ≠ y) : ∀ k : Nat, (suppAt g l k).length + (if x < k then 1 else 0) + (if y < k then 1 else 0) ≤ k
  | 0 => by simp [suppAt]
  | k + 1 => by
    have ih := suppAt_short hx hy hne k
    rw [suppAt]
    split
    · rename_i hm
      have hm' : (belowG g l)[k + 1]? = some true := by
        cases e : (belowG g l)[k + 1]? with
        | none => rw [e] at hm; cases hm
        | some b => rw [e] at hm; cases b <;> simp_all
      have hkx : k ≠ x := fun e => hx (by rw [← e]; exact hm')
      have hky : k ≠ y := fun e => hy (by rw [← e]; exact hm')
      rw [List.length_append, List.length_singleton]
      split at ih <;> split at ih <;> split <;> split <;> omega
    · split at ih <;> split at ih <;> split <;> split <;> omega

/-- Two inputs fixed, one behind the other: neither stands below. -/
theorem fixed_twice {g h i : Gr} {l x y a b : Int} {p q : Bool} (hr : rightB g = true) (hx : 1 ≤ x ∧ x ≤ g.n) (hy : 1 ≤ y ∧ y ≤ g.n) (hne : x ≠ y) (h1 : Fixed g l x p h a) (h2 : Fixed h a y q i b) : ((suppG i b).length : Int) ≤ g.n - 2 := by
  have hn1 := h1.grows.n
  have hn2 := h2.grows.n
  have nx : (belowG i b)[(x - 1).toNat + 1]? ≠ some true := fun hm => by
    have hu := (below_iff h2.grows.right h2.grows.lit _).1 hm
    rw [show (((x - 1).toNat + 1 : Nat) : Int) = x from by omega] at hu
    have := (h2.und x hx.1 (by omega) hu).2
    exact (h1.und x hx.1 hx.2 this).1 rfl
  have ny : (belowG i b)[(y - 1).toNat + 1]? ≠ some true := fun hm => by
    have hu := (below_iff h2.grows.right h2.grows.lit _).1 hm
    rw [show (((y - 1).toNat + 1 : Nat) : Int) = y from by omega] at hu
    exact (h2.und y hy.1 (by omega) hu).1 rfl
  have := suppAt_short nx ny (by omega) i.n.toNat
  rw [if_pos (by omega), if_pos (by omega)] at this
  rw [suppG_yes h2.grows.right h2.grows.lit]
  omega

theorem set_swap {xs : List Bool} {x y : Int} {p q : Bool} (hx : 1 ≤ x) (hy : 1 ≤ y) (hne : x ≠ y) : (xs.set (y - 1).toNat q).set (x - 1).toNat p = (xs.set (x - 1).toNat p).set (y - 1).toNat q := by
  rw [List.set_comm]
  omega

theorem fixed_same {g h i j k : Gr} {l x y a b c d : Int} {p q : Bool} (hx : 1 ≤ x) (hy : 1 ≤ y) (hne : x ≠ y) (h1 : Fixed g l x p h a) (h2 : Fixed h a y q i b) (h3 : Fixed g l y q j c) (h4 : Fixed j c x p k d) {xs : List Bool} (hn : (xs.length : Int) = g.n) : evalG i b xs = evalG k d xs := by
  rw [h2.sem xs (by rw [h1.grows.n]; exact hn), h1.sem _ (by rw [List.length_set]; exact hn), h4.sem xs (by rw [h3.grows.n]; exact hn), h3.sem _ (by rw [List.length_set]; exact hn), set_swap hx hy hne]

/-! ### What a literal hangs on -/
/-- Values taken over where a list says so. -/
def takeOver (xs : List Bool) : List Int → List Bool → List Bool
  | [], ys => ys
  | s :: ss, ys => takeOver xs ss (ys.set (s - 1).toNat (xs[(s - 1).toNat]?.getD false))
theorem takeOver_snoc (xs : List Bool) (s : Int) : ∀ (ss : List Int) (ys : List Bool), takeOver xs (ss ++ [s]) ys = (takeOver xs ss ys).set (s - 1).toNat (xs[(s - 1).toNat]?.getD false)
  | [], ys => rfl
  | t :: ss, ys => takeOver_snoc xs s ss _
theorem takeOver_length (xs : List Bool) : ∀ (ss : List Int) (ys : List Bool), (takeOver xs ss ys).length = ys.length
  | [], ys => rfl
  | t :: ss, ys => by rw [takeOver, takeOver_length xs ss, List.length_set]
theorem takeOver_keep (xs : List Bool) {i : Nat} (hx : i < xs.length) : ∀ (ss : List Int) (ys : List Bool), ys[i]? = xs[i]? → (takeOver xs ss ys)[i]? = xs[i]?
  | [], ys, h => h
  | t :: ss, ys, h => by
    rw [takeOver]
    refine takeOver_keep xs hx ss _ ?_
    rw [List.getElem?_set]
    split
    · rename_i e
      rw [e]
      have hy : i < ys.length := by
        rw [List.getElem?_eq_getElem hx] at h
        exact (List.getElem?_eq_some_iff.1 h).1
      rw [if_pos hy, List.getElem?_eq_getElem hx]
      rfl
    · exact h
theorem takeOver_at (xs : List Bool) {i : Nat} (hx : i < xs.length) : ∀ (ss : List Int) (ys : List Bool), ys.length = xs.length → ((i : Int) + 1) ∈ ss → (takeOver xs ss ys)[i]? = xs[i]?
  | [], ys, _, h => by cases h
  | t :: ss, ys, hl, h => by
    rw [takeOver]
    rcases List.mem_cons.1 h with h | h
    · refine takeOver_keep xs hx ss _ ?_
      rw [← h, show ((i : Int) + 1 - 1).toNat = i from by omega, List.getElem?_set_self (by omega), List.getElem?_eq_getElem hx]
      rfl
    · exact takeOver_at xs hx ss _ (by rw [List.length_set]; exact hl) h

theorem evalG_hangs {g : Gr} {l : Int} (hr : rightB g = true) (hl : litB g l = true) {xs ys : List Bool} (hx : (xs.length : Int) = g.n) (hy : (ys.length : Int) = g.n) : evalG g l xs = evalG g l (takeOver xs (suppG g l) ys) := by
  have hlt : ((takeOver xs (suppG g l) ys).length : Int) = g.n := by rw [takeOver_length]; exact hy
  rw [evalG_is hr hx hl, evalG_is hr hlt hl]
  refine litV_und_lit hr hx hlt hl fun i hu => ?_
  have hi := und_low hr hu
  by_cases hin : (i : Int) + 1 ≤ g.n
  · exact (takeOver_at xs (by omega) _ ys (by omega) ((suppG_iff hr hl _).2 ⟨by omega, hin, hu⟩)).symm
  · rw [List.getElem?_eq_none (by omega), List.getElem?_eq_none (by rw [takeOver_length]; omega)]

theorem suppG_range {g : Gr} {l : Int} (hr : rightB g = true) (hl : litB g l = true) {i : Nat} {x : Int} (h : (suppG g l)[i]? = some x) : 1 ≤ x ∧ x ≤ g.n := by
  obtain ⟨h1, h2, _⟩ := (suppG_iff hr hl x).1 (List.mem_of_getElem? h)
  exact ⟨h1, h2⟩
theorem suppG_rises {g : Gr} {l : Int} {i : Nat} {x y : Int} (hy : (suppG g l)[i]? = some y) (hx : (suppG g l)[i + 1]? = some x) : y < x := by
  have hp : (suppG g l).Pairwise (· < ·) := by
    unfold suppG
    split
    · exact suppAt_sorted _
    · exact List.Pairwise.nil
  obtain ⟨h1, rfl⟩ := List.getElem?_eq_some_iff.1 hy
  obtain ⟨h2, rfl⟩ := List.getElem?_eq_some_iff.1 hx
  exact List.pairwise_iff_getElem.1 hp i (i + 1) h1 h2 (by omega)
theorem suppG_len {g : Gr} {l : Int} (hr : rightB g = true) : ((suppG g l).length : Int) ≤ g.n := by
  have n0 := (right_vars hr).1
  unfold suppG
  split
  · have := suppAt_length g l g.n.toNat
    omega
  · simpa using n0
end Go.Proofs.Ytbdhkagcbncefaa
