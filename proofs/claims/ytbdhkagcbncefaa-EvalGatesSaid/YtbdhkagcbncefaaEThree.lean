/- Layer 2: what a literal is by inputs that may be either. -/
import Derived.Test.YtbdhkagcbncefaaEAll
import Derived.Test.YtbdhkagcbncefaaRThree
set_option linter.unusedVariables false
set_option linter.unusedSimpArgs false
namespace Go.Proofs.Ytbdhkagcbncefaa
open Go.RowKit Go.Maps

/-- A row of numbers that is made with one element. -/
theorem make_ints (C : Int) (h1 : 1 ≤ C) (h2 : C ≤ 4001) : ∃ (n : Nat) (cs : Array Value), (n : Int) = C ∧ cs.size = n * 1 ∧ cs.toList.take (1 * 1) = [.int .i64 0] ∧
    ∀ w : World, (Instr.makeSlice 26 (.int .i64 1) (.int .i64 C)).run Try.prog w = .ok (.slice (some ⟨w.heap.size, 0, none⟩) 1 n) (w.alloc (.cells cs 3)) := by
  obtain ⟨i, hi, hz, hs, hb⟩ := info_parts intInfo
  refine ⟨C.toNat, madeCells #[.int .i64 0] C.toNat, by omega, by rw [size_madeCells]; simp, ?_, fun w => ?_⟩
  · obtain ⟨m, hm⟩ : ∃ m, C.toNat = m + 1 := ⟨C.toNat - 1, by omega⟩
    rw [hm]
    have h0 : (madeCells #[Value.int .i64 0] (m + 1)).toList[0]? = some (.int .i64 0) := by simp [madeCells]
    match h : (madeCells #[Value.int .i64 0] (m + 1)).toList, h0 with
    | a :: r, h0 => simp at h0; simp [h0]
  · have hr := run_make (P := Try.prog) w 26 3 i (.int .i64 0) Try.underlying26 hi hz .i64 .i64 1 C (by omega) h1 (by rw [hb]; omega) (by omega)
    rw [hs, Nat.mul_one] at hr
    exact hr

set_option maxRecDepth 100000 in
set_option maxHeartbeats 4000000 in
theorem eThree_any (g : Gr) (l : Int) (xs : List Int) (A B : Option Addr) (c d : Nat) (w : World) (hg : GOk g) (hc : g.as.length ≤ c) (hp : Prs w w.heap.size A g.as) (hl : xs.length ≤ 17592186044416) (hx : Vals w w.heap.size B (i64s xs)) (hll : l ≤ 9223372036854775807) :
    Calls Try.prog 33 #[.agg #[.int .i64 g.n, .slice A g.as.length c], .int .i64 l, .slice B xs.length d] w (Ret w (.int .i64 (threeG g l xs))) := by
  have hnot := @not_run Try.prog
  have hmf : ∀ (fn : Fn) (first cap : Array Value) (w : World), (Instr.makeFunc fn first cap).run Try.prog w = .ok (.func fn first cap) w := fun _ _ _ _ => rfl
  have HX := Lib.hid hx
  have HP := Lib.hid hp
  have HOK := Lib.hid hg
  have hgl : g.as.length ≤ 8796093022208 := hg.2.1
  have HB := Lib.hid (Boxed.begin_ (w := w) (g := g) (A := A) (c := c))
  clear hp hx hg
  go_enter Try.func33, Try.ntmps33
  go_wp2_with fail
  refine (Right_any g A c _ HOK.out (HB.out.prs HP.out)).mono ?_
  rintro e w1 ⟨rfl, hb⟩
  replace HB := Lib.hid (HB.out.step hb)
  clear hb
  have c0 := HB.out.c0
  have c1 := HB.out.c1
  cases hr : rightB g
  · have HE : Hid (threeG g l xs = 2) := by show threeG g l xs = 2; unfold threeG; rw [hr]; rfl
    go_wp2_with fail
    go_ret
    exact Ret.mk (by rw [HE.out]; first | done | rfl) HB.out.low
  · by_cases hn : (xs.length : Int) = g.n
    · have HR : Hid (rightB g = true) := hr
      clear hr
      have HN := Lib.hid hn
      go_wp2_with fail
      refine (lit_any g l A c _ hgl hll).mono ?_
      rintro e w2 ⟨rfl, hb⟩
      replace HB := Lib.hid (HB.out.step hb)
      clear hb
      replace c0 := HB.out.c0
      replace c1 := HB.out.c1
      cases hlt : litB g l
      · have HE : Hid (threeG g l xs = 2) := by show threeG g l xs = 2; unfold threeG; rw [hlt]; simp
        go_wp2_with fail
        go_ret
        exact Ret.mk (by rw [HE.out]; first | done | rfl) HB.out.low
      · have HE : Hid (threeG g l xs = bit3 (vals3At g xs g.as.length) l) := by show threeG g l xs = _; unfold threeG; rw [hlt, HR.out, decide_eq_true HN.out]; rfl
        have HL : Hid (0 ≤ l ∧ l / 2 < ((vals3At g xs g.as.length).length : Int) ∧ l ≤ 4001) := by
          rcases lit3_vals HN.out hlt with h | h
          · exact h
          · rw [HR.out] at h; cases h
        obtain ⟨g0, g1, g2, g3⟩ := (size_iff g).1 (right_size HR.out)
        have hl2 : xs.length ≤ 2000 := by omega
        obtain ⟨i0, hi0, hz0, hz1, hz2⟩ := info_parts intInfo
        clear hlt
        obtain ⟨C, cs, hC, hcs, htk, hmk⟩ := make_ints (g.n + 1 + (g.as.length : Int)) (by omega) (by omega)
        have hs := HB.out.size
        have HO1 : Hid ((w2.alloc (.cells cs 3)).ownsRow (w.heap.size + 1) 3 1 (.slice (some ⟨w2.heap.size, 0, none⟩) 1 C) 1 [.int .i64 0]) :=
          ⟨by simp, .inr ⟨w2.heap.size, C, cs, rfl, hs, heap_alloc_new w2 _, by omega, by unfold maxLen; omega, hcs, by simpa using htk⟩⟩
        have HO2 := Lib.hid (HO1.out.alloc (.cells #[.slice (some ⟨w2.heap.size, 0, none⟩) 1 C] 26))
        have HB2 := Lib.hid ((HB.out.alloc (.cells cs 3)).alloc (.cells #[.slice (some ⟨w2.heap.size, 0, none⟩) 1 C] 26))
        have HK2 : Hid (Blk ((w2.alloc (.cells cs 3)).alloc (.cells #[.slice (some ⟨w2.heap.size, 0, none⟩) 1 C] 26)) (w2.heap.size + 1) 26 #[.slice (some ⟨w2.heap.size, 0, none⟩) 1 C]) := by
          have := Blk.new (w2.alloc (.cells cs 3)) 26 #[.slice (some ⟨w2.heap.size, 0, none⟩) 1 C]
          rw [World.size_alloc] at this
          exact this
        clear HO1 hcs htk
        go_wp2_with fail
        clear HB c0 c1
        go_loopw [39] (fun i wr => ∃ (k : Nat) (A' : Option Addr) (c' : Nat), k ≤ xs.length ∧ i = .int .i64 k ∧ OwnF wr (w.heap.size + 1) 3 1 (.slice A' (toldAt xs k).length c') (toldAt xs k).length (i64s (toldAt xs k)) ∧ BlkF wr (w2.heap.size + 1) 26 #[.slice A' (toldAt xs k).length c'] ∧ Boxed w wr g A c) (fun i _ => xs.length - (intOf i).toNat)
        case atStart =>
          refine ⟨0, some ⟨w2.heap.size, 0, none⟩, C, Nat.zero_le _, rfl, ⟨?_⟩, ⟨?_⟩, HB2.out⟩
          · rw [toldAt_zero]
            exact HO2.out
          · rw [toldAt_zero]
            exact HK2.out
        case round =>
          clear HO2 HB2 HK2
          obtain ⟨k, A', c', hk, rfl, hown, hvar, hbx⟩ := hrel
          have HO := Lib.hid hown
          have HV := Lib.hid hvar
          have HB := Lib.hid hbx
          have k0 := HV.out.cell 0
          have k1 := HV.out.p.frozen 0
          have HVL : Hid ((toldAt xs k).length = k + 1) := toldAt_length hk
          clear hown hbx hvar
          by_cases hlt : k < xs.length
          · have hlt' : (k : Int) < (xs.length : Int) := by omega
            obtain ⟨x, hxk⟩ : ∃ q, xs[k]? = some q := ⟨_, List.getElem?_eq_getElem hlt⟩
            obtain ⟨b', o', rfl, _, q1⟩ := (HB.out.vals HX.out) k _ (i64s_at hxk)
            have HS : Hid (toldAt xs (k + 1) = toldAt xs k ++ [told3 x]) := toldAt_succ hxk
            have HT := Lib.hid (told_any x wr.drew)
            generalize told3 x = y at HS HT
            clear hxk
            have hs := HB.out.size
            go_wp2_with fail
            refine wp_region_noPanic ?_
            refine wp_region_seq (fun W => W.cell? ⟨w2.heap.size + 1, 0, none⟩ = some (.slice A' (toldAt xs k).length c')) [0, 1, 2, 3, 4, 5] [0, 1] [5] (by kernel_rfl) (by kernel_rfl) rfl (by kernel_rfl) (by kernel_rfl) (fun _ _ _ _ _ h => h) k0 (fun hSS => ?_)
            (refine wpSeq_mov rfl rfl ?_; intro o ho; simp only [List.getElem?_toArray, List.getElem?_cons_zero, List.getElem?_cons_succ, Option.some.injEq] at ho; subst ho; refine ⟨?_, Or.inl ⟨by rfl, fun W hSW => ?_⟩, ?_⟩; rotate_left; (focus (go_simp; first | done | with_reducible rfl)); try simp only [Act.put, List.setIfInBounds_toArray, List.set_cons_zero, List.set_cons_succ])
            (refine wpSeq_mov rfl rfl ?_; intro o ho; simp only [List.getElem?_toArray, List.getElem?_cons_zero, List.getElem?_cons_succ, Option.some.injEq] at ho; subst ho; refine ⟨?_, Or.inl ⟨by rfl, fun W hSW => ?_⟩, ?_⟩; rotate_left; (focus (go_simp; first | done | with_reducible rfl)); try simp only [Act.put, List.setIfInBounds_toArray, List.set_cons_zero, List.set_cons_succ])
            (refine wpSeq_fix rfl rfl ?_; intro o ho; simp only [List.getElem?_toArray, List.getElem?_cons_zero, List.getElem?_cons_succ, Option.some.injEq] at ho; subst ho; intro K hK)
            go_simp
            refine HT.out.mono ?_
            rintro e w' ⟨rfl, rfl⟩
            (refine hK.out _ _ (fun _ => hSS) ?_; clear hK K; try simp only [Act.put, List.setIfInBounds_toArray, List.set_cons_zero, List.set_cons_succ])
            (refine wpSeq_fix rfl rfl ?_; intro o ho; simp only [List.getElem?_toArray, List.getElem?_cons_zero, List.getElem?_cons_succ, Option.some.injEq] at ho; subst ho; intro K hK)
            go_simp
            (refine hK.out _ _ (fun _ => by go_keep) ?_; clear hK K; try simp only [Act.put, List.setIfInBounds_toArray, List.set_cons_zero, List.set_cons_succ])
            (refine wpSeq_fix rfl rfl ?_; intro o ho; simp only [List.getElem?_toArray, List.getElem?_cons_zero, List.getElem?_cons_succ, Option.some.injEq] at ho; subst ho; intro K hK)
            rw [if_pos (by rfl)]
            refine wp_append_own _ (.tmp 43) (.tmp 46) _ rfl (w.heap.size + 1) 3 i0 _ 1 8 Try.underlying26 hi0 hz0 hz1 hz2 rfl (by omega) (.slice A' (toldAt xs k).length c') (toldAt xs k).length (i64s (toldAt xs k)) rfl (HO.out.p.drew.alloc _) _ 1 1 [.int .i64 y] rfl rfl (cells_new _ [.int .i64 y] 3) (i64s_one [y]) (by rw [HVL.out]; unfold maxLen; omega) (by rw [HVL.out]; omega) (by simp; omega) ?_
            intro v5 w5 hown5 hg5 _
            obtain ⟨A6, c6, rfl, hcap6⟩ := own_form hown5
            have HO5 := Lib.hid hown5
            have HV5 := Lib.hid (((HV.out.p.drew).alloc _).by_ hg5 (own_ne HO.out.p HV.out.p (by decide)))
            have HB5 := Lib.hid (((HB.out.step (stepD1 _)).alloc _).grown hg5 (own_block HO.out.p))
            clear hown5 hg5 k0 k1 q1 hSS
            have k0 := HV5.out.cell 0
            have k1 := HV5.out.frozen 0
            (refine hK.out _ _ (fun _ => HV5.out.cell 0) ?_; clear hK K; try simp only [Act.put, List.setIfInBounds_toArray, List.set_cons_zero, List.set_cons_succ])
            (refine wpSeq_fix rfl rfl ?_; intro o ho; simp only [List.getElem?_toArray, List.getElem?_cons_zero, List.getElem?_cons_succ, Option.some.injEq] at ho; subst ho; intro K hK)
            go_simp
            (refine hK.out _ _ (fun h => by simp at h) ?_; clear hK K; try simp only [Act.put, List.setIfInBounds_toArray, List.set_cons_zero, List.set_cons_succ])
            refine wpSeq_done ?_
            go_wp2_with fail
            go_roundw
            case rel =>
              have hl6 : (toldAt xs (k + 1)).length = (toldAt xs k).length + 1 := by rw [HS.out]; simp
              refine ⟨k + 1, A6, c6, by omega, by go_num, ⟨?_⟩, ⟨?_⟩, ⟨?_⟩⟩
              · rw [hl6, HS.out, i64s_snoc]
                exact own_set HO5.out HV5.out (by decide) 0 _
              · rw [hl6]
                exact HV5.out.set_ 0 _
              · exact HB5.out.below.setCell (by simp; omega) _
            case measure => simp [intOf]; omega
          · have hlt' : ¬ ((k : Int) < (xs.length : Int)) := by omega
            obtain rfl : k = xs.length := by omega
            have HTA := Lib.hid (toldAt_all g xs)
            rw [HTA.out] at HO HVL HV k0
            clear hlt
            have c0 := HB.out.c0
            have c1 := HB.out.c1
            go_wp2_with fail
            clear c0 c1 k0 k1
            obtain ⟨wo, rfl⟩ : ∃ wo : World, wo = wr := ⟨_, rfl⟩
            go_loopw [53] (fun i wr => ∃ (k : Nat) (A' : Option Addr) (c' : Nat), k ≤ g.as.length ∧ i = .int .i64 k ∧ OwnF wr (w.heap.size + 1) 3 1 (.slice A' (vals3At g xs k).length c') (vals3At g xs k).length (i64s (vals3At g xs k)) ∧ BlkF wr (w2.heap.size + 1) 26 #[.slice A' (vals3At g xs k).length c'] ∧ Boxed w wr g A c) (fun i _ => g.as.length - (intOf i).toNat)
            case atStart => exact ⟨0, A', c', Nat.zero_le _, rfl, HO.out, HV.out, HB.out⟩
            case round =>
              clear HO HB HVL HV
              obtain ⟨k, A', c', hk, rfl, hown, hvar, hbx⟩ := hrel
              have HO := Lib.hid hown
              have HV := Lib.hid hvar
              have HB := Lib.hid hbx
              have k0 := HV.out.cell 0
              have k1 := HV.out.p.frozen 0
              have HVL : Hid ((vals3At g xs k).length = 1 + xs.length + k) := vals3At_length hk
              have H3 := Lib.hid (vals3At_is g xs k)
              clear hown hbx hvar
              by_cases hlt : k < g.as.length
              · have hlt2 : (k : Int) < (g.as.length : Int) := by omega
                obtain ⟨⟨p1, p2⟩, hpk⟩ : ∃ q, g.as[k]? = some q := ⟨_, List.getElem?_eq_getElem hlt⟩
                obtain ⟨b', o', rfl, _, q1, q2⟩ := (HB.out.prs HP.out) k _ hpk
                obtain ⟨r1, r2, r3, r4, r5, r6⟩ := gate_lits HR.out hpk
                simp only at r1 r2 r3 r4 r5 r6
                have HPK := Lib.hid hpk
                clear hpk
                have V1 : Hid (p1 / 2 < ((vals3At g xs k).length : Int)) := by show p1 / 2 < _; rw [HVL.out]; omega
                have V2 : Hid (p2 / 2 < ((vals3At g xs k).length : Int)) := by show p2 / 2 < _; rw [HVL.out]; omega
                have hs := HB.out.size
                go_wp2_with fail
                have HOa : Hid (World.ownsRow (wr.alloc (.cells #[.int .i64 p1, .int .i64 p2] 41)) (w.heap.size + 1) 3 1 (.slice A' (vals3At g xs k).length c') (vals3At g xs k).length (i64s (vals3At g xs k))) := HO.out.p.alloc _
                have HVa := Lib.hid (HV.out.step (stepA wr (.cells #[.int .i64 p1, .int .i64 p2] 41)))
                have HBa := Lib.hid (HB.out.alloc (.cells #[.int .i64 p1, .int .i64 p2] 41))
                have HPa := Lib.hid (Blk.new wr 41 #[.int .i64 p1, .int .i64 p2])
                have hsa : wr.heap.size < (wr.alloc (.cells #[.int .i64 p1, .int .i64 p2] 41)).heap.size := by simp
                have hvb : w2.heap.size + 1 < wr.heap.size := HV.out.p.lt
                generalize wr.alloc (.cells #[.int .i64 p1, .int .i64 p2] 41) = wa at HOa HVa HBa HPa hsa ⊢
                generalize hpb : wr.heap.size = pb at HPa hsa hvb ⊢
                clear k0 k1 q1 q2 HO HB HV hpb
                have k0 := HVa.out.cell 0
                have k1 := HVa.out.p.frozen 0
                have q1 := HPa.out.cell 0
                have q2 := HPa.out.cell 1
                have HX1 : Hid (Calls Try.prog 66 #[.int .i64 p1, .pointer (some ⟨w2.heap.size + 1, 0, none⟩)] wa.drew (fun e w' => e = .returned (.int .i64 (bit3 (vals3At g xs k) p1)) ∧ w' = wa.drew)) :=
                  ethree_still (vals3At g xs k) p1 A' c' _ wa.drew r1 V1.out (by omega) k0 (Vals.of_own HOa.out.drew) H3.out
                have HX2 : Hid (Calls Try.prog 66 #[.int .i64 p2, .pointer (some ⟨w2.heap.size + 1, 0, none⟩)] wa.drew (fun e w' => e = .returned (.int .i64 (bit3 (vals3At g xs k) p2)) ∧ w' = wa.drew)) :=
                  ethree_still (vals3At g xs k) p2 A' c' _ wa.drew r3 V2.out (by omega) k0 (Vals.of_own HOa.out.drew) H3.out
                have HG := Lib.hid (gate_any (bit3 (vals3At g xs k) p1) (bit3 (vals3At g xs k) p2) wa.drew (bit3_is H3.out p1) (bit3_is H3.out p2))
                have HS : Hid (vals3At g xs (k + 1) = vals3At g xs k ++ [gate3 (bit3 (vals3At g xs k) p1) (bit3 (vals3At g xs k) p2)]) := vals3At_succ HPK.out
                generalize gate3 (bit3 (vals3At g xs k) p1) (bit3 (vals3At g xs k) p2) = y at HS HG
                generalize bit3 (vals3At g xs k) p1 = y1 at HX1 HG
                generalize bit3 (vals3At g xs k) p2 = y2 at HX2 HG
                have hs2 := HBa.out.size
                have HSW : Hid (wa.drew.cell? ⟨w2.heap.size + 1, 0, none⟩ = some (.slice A' (vals3At g xs k).length c') ∧ wa.drew.cell? ⟨pb, 0, none⟩ = some (.int .i64 p1) ∧ wa.drew.cell? ⟨pb, 1, none⟩ = some (.int .i64 p2)) := ⟨k0, q1, q2⟩
                refine wp_region_noPanic ?_
                refine wp_region_seq (fun W => W.cell? ⟨w2.heap.size + 1, 0, none⟩ = some (.slice A' (vals3At g xs k).length c') ∧ W.cell? ⟨pb, 0, none⟩ = some (.int .i64 p1) ∧ W.cell? ⟨pb, 1, none⟩ = some (.int .i64 p2)) [0, 1, 2, 3, 5, 6, 7, 4, 8, 9, 10, 11, 12] [0, 1, 2, 3, 5, 6, 7] [12] (by kernel_rfl) (by kernel_rfl) rfl (by kernel_rfl) (by kernel_rfl) (fun _ _ _ _ _ h => h) HSW.out (fun _ => ?_)
                (refine wpSeq_mov rfl rfl ?_; intro o ho; simp only [List.getElem?_toArray, List.getElem?_cons_zero, List.getElem?_cons_succ, Option.some.injEq] at ho; subst ho; refine ⟨?_, Or.inl ⟨by rfl, fun W hSW => ?_⟩, ?_⟩; rotate_left; (focus (go_simp; first | done | with_reducible rfl)); try simp only [Act.put, List.setIfInBounds_toArray, List.set_cons_zero, List.set_cons_succ])
                (refine wpSeq_mov rfl rfl ?_; intro o ho; simp only [List.getElem?_toArray, List.getElem?_cons_zero, List.getElem?_cons_succ, Option.some.injEq] at ho; subst ho; refine ⟨?_, Or.inl ⟨by rfl, fun W hSW => ?_⟩, ?_⟩; rotate_left; (focus (go_simp; first | done | with_reducible rfl)); try simp only [Act.put, List.setIfInBounds_toArray, List.set_cons_zero, List.set_cons_succ])
                (refine wpSeq_mov rfl rfl ?_; intro o ho; simp only [List.getElem?_toArray, List.getElem?_cons_zero, List.getElem?_cons_succ, Option.some.injEq] at ho; subst ho; refine ⟨?_, Or.inl ⟨by rfl, fun W hSW => ?_⟩, ?_⟩; rotate_left; (focus (go_simp; first | done | with_reducible rfl)); try simp only [Act.put, List.setIfInBounds_toArray, List.set_cons_zero, List.set_cons_succ])
                (refine wpSeq_mov rfl rfl ?_; intro o ho; simp only [List.getElem?_toArray, List.getElem?_cons_zero, List.getElem?_cons_succ, Option.some.injEq] at ho; subst ho; refine ⟨?_, Or.inl ⟨by rfl, fun W hSW => ?_⟩, ?_⟩; rotate_left; (focus (go_simp; first | done | with_reducible rfl)); try simp only [Act.put, List.setIfInBounds_toArray, List.set_cons_zero, List.set_cons_succ])
                (refine wpSeq_mov rfl rfl ?_; intro o ho; simp only [List.getElem?_toArray, List.getElem?_cons_zero, List.getElem?_cons_succ, Option.some.injEq] at ho; subst ho; refine ⟨?_, Or.inl ⟨by rfl, fun W hSW => ?_⟩, ?_⟩; rotate_left; (focus (go_simp; first | done | with_reducible rfl)); try simp only [Act.put, List.setIfInBounds_toArray, List.set_cons_zero, List.set_cons_succ])
                (refine wpSeq_mov rfl rfl ?_; intro o ho; simp only [List.getElem?_toArray, List.getElem?_cons_zero, List.getElem?_cons_succ, Option.some.injEq] at ho; subst ho; refine ⟨?_, Or.inl ⟨by rfl, fun W hSW => ?_⟩, ?_⟩; rotate_left; (focus (go_simp; first | done | with_reducible rfl)); try simp only [Act.put, List.setIfInBounds_toArray, List.set_cons_zero, List.set_cons_succ])
                (refine wpSeq_mov rfl rfl ?_; intro o ho; simp only [List.getElem?_toArray, List.getElem?_cons_zero, List.getElem?_cons_succ, Option.some.injEq] at ho; subst ho; refine ⟨?_, Or.inl ⟨by rfl, fun W hSW => ?_⟩, ?_⟩; rotate_left; (focus (go_simp; first | done | with_reducible rfl)); try simp only [Act.put, List.setIfInBounds_toArray, List.set_cons_zero, List.set_cons_succ])
                (refine wpSeq_fix rfl rfl ?_; intro o ho; simp only [List.getElem?_toArray, List.getElem?_cons_zero, List.getElem?_cons_succ, Option.some.injEq] at ho; subst ho; intro K hK)
                go_simp
                refine HX1.out.mono ?_
                rintro e w' ⟨rfl, rfl⟩
                (refine hK.out _ _ (fun _ => HSW.out) ?_; clear hK K; try simp only [Act.put, List.setIfInBounds_toArray, List.set_cons_zero, List.set_cons_succ])
                (refine wpSeq_fix rfl rfl ?_; intro o ho; simp only [List.getElem?_toArray, List.getElem?_cons_zero, List.getElem?_cons_succ, Option.some.injEq] at ho; subst ho; intro K hK)
                go_simp
                refine HX2.out.mono ?_
                rintro e w' ⟨rfl, rfl⟩
                (refine hK.out _ _ (fun _ => HSW.out) ?_; clear hK K; try simp only [Act.put, List.setIfInBounds_toArray, List.set_cons_zero, List.set_cons_succ])
                (refine wpSeq_fix rfl rfl ?_; intro o ho; simp only [List.getElem?_toArray, List.getElem?_cons_zero, List.getElem?_cons_succ, Option.some.injEq] at ho; subst ho; intro K hK)
                go_simp
                refine HG.out.mono ?_
                rintro e w' ⟨rfl, rfl⟩
                (refine hK.out _ _ (fun _ => HSW.out) ?_; clear hK K; try simp only [Act.put, List.setIfInBounds_toArray, List.set_cons_zero, List.set_cons_succ])
                (refine wpSeq_fix rfl rfl ?_; intro o ho; simp only [List.getElem?_toArray, List.getElem?_cons_zero, List.getElem?_cons_succ, Option.some.injEq] at ho; subst ho; intro K hK)
                go_simp
                (refine hK.out _ _ (fun _ => by go_keep) ?_; clear hK K; try simp only [Act.put, List.setIfInBounds_toArray, List.set_cons_zero, List.set_cons_succ])
                (refine wpSeq_fix rfl rfl ?_; intro o ho; simp only [List.getElem?_toArray, List.getElem?_cons_zero, List.getElem?_cons_succ, Option.some.injEq] at ho; subst ho; intro K hK)
                rw [if_pos (by rfl)]
                refine wp_append_own _ (.tmp 57) (.tmp 67) _ rfl (w.heap.size + 1) 3 i0 _ 1 8 Try.underlying26 hi0 hz0 hz1 hz2 rfl (by omega) (.slice A' (vals3At g xs k).length c') (vals3At g xs k).length (i64s (vals3At g xs k)) rfl (HOa.out.drew.alloc _) _ 1 1 [.int .i64 y] rfl rfl (cells_new _ [.int .i64 y] 3) (i64s_one [y]) (by rw [HVL.out]; unfold maxLen; omega) (by rw [HVL.out]; omega) (by simp; omega) ?_
                intro v5 w5 hown5 hg5 _
                obtain ⟨A6, c6, rfl, hcap6⟩ := own_form hown5
                have HO5 := Lib.hid hown5
                have HV5 := Lib.hid (((HVa.out.p.drew).alloc _).by_ hg5 (own_ne HOa.out HVa.out.p (by decide)))
                have HP5 := Lib.hid (((HPa.out.drew).alloc _).by_ hg5 (own_ne HOa.out HPa.out (by decide)))
                have HB5 := Lib.hid (((HBa.out.step (stepD1 _)).alloc _).grown hg5 (own_block HOa.out))
                clear hown5 hg5 k0 k1 q1 q2
                have k0 := HV5.out.cell 0
                have k1 := HV5.out.frozen 0
                (refine hK.out _ _ (fun _ => ⟨HV5.out.cell 0, HP5.out.cell 0, HP5.out.cell 1⟩) ?_; clear hK K; try simp only [Act.put, List.setIfInBounds_toArray, List.set_cons_zero, List.set_cons_succ])
                (refine wpSeq_fix rfl rfl ?_; intro o ho; simp only [List.getElem?_toArray, List.getElem?_cons_zero, List.getElem?_cons_succ, Option.some.injEq] at ho; subst ho; intro K hK)
                go_simp
                (refine hK.out _ _ (fun h => by simp at h) ?_; clear hK K; try simp only [Act.put, List.setIfInBounds_toArray, List.set_cons_zero, List.set_cons_succ])
                refine wpSeq_done ?_
                go_wp2_with fail
                go_roundw
                case rel =>
                  have hl6 : (vals3At g xs (k + 1)).length = (vals3At g xs k).length + 1 := by rw [HS.out]; simp
                  refine ⟨k + 1, A6, c6, by omega, by go_num, ⟨?_⟩, ⟨?_⟩, ⟨?_⟩⟩
                  · rw [hl6, HS.out, i64s_snoc]
                    exact own_set HO5.out HV5.out (by decide) 0 _
                  · rw [hl6]
                    exact HV5.out.set_ 0 _
                  · exact HB5.out.below.setCell (by simp; omega) _
                case measure => simp [intOf]; omega
              · have hlt2 : ¬ ((k : Int) < (g.as.length : Int)) := by omega
                obtain rfl : k = g.as.length := by omega
                have HX1 := Lib.hid (ethree_still (vals3At g xs g.as.length) l A' c' _ wr HL.out.1 HL.out.2.1 (by omega) k0 (Vals.of_own HO.out.p) H3.out)
                go_wp2_with fail
                refine HX1.out.mono ?_
                rintro e w' ⟨rfl, rfl⟩
                go_wp2_with fail
                go_ret
                exact Ret.mk (by rw [HE.out]; first | done | rfl) HB.out.low
    · have HE : Hid (threeG g l xs = 2) := by show threeG g l xs = 2; unfold threeG; rw [hr, decide_eq_false hn]; rfl
      have hn' : ¬ ((xs.length : Int) = g.n) := hn
      clear hr
      go_wp2_with fail
      go_ret
      exact Ret.mk (by rw [HE.out]; first | done | rfl) HB.out.low
end Go.Proofs.Ytbdhkagcbncefaa
