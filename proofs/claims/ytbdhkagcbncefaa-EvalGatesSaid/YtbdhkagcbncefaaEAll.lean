/- Layer 2: what all variables are. -/
import Derived.Test.YtbdhkagcbncefaaSeq
set_option linter.unusedVariables false
set_option linter.unusedSimpArgs false
namespace Go.Proofs.Ytbdhkagcbncefaa
open Go.RowKit Go.Maps

theorem eright_is (g : Gr) (x : Bool) (hx : rightB g = x) (A : Option Addr) (c : Nat) (w : World) (hg : GOk g) (hp : Prs w w.heap.size A g.as) :
    Calls Try.prog 42 #[.agg #[.int .i64 g.n, .slice A g.as.length c]] w (Ret w (.bool x)) := by
  rw [← hx]
  exact Right_any g A c w hg hp

/-- A row of truth values that is made with one element. -/
theorem make_bools (C : Int) (h1 : 1 ≤ C) (h2 : C ≤ 4001) : ∃ (n : Nat) (cs : Array Value), (n : Int) = C ∧ cs.size = n * 1 ∧ cs.toList.take (1 * 1) = [.bool false] ∧
    ∀ w : World, (Instr.makeSlice 25 (.int .i64 1) (.int .i64 C)).run Try.prog w = .ok (.slice (some ⟨w.heap.size, 0, none⟩) 1 n) (w.alloc (.cells cs 4)) := by
  obtain ⟨i, hi, hz, hs, hb⟩ := info_parts boolInfo
  refine ⟨C.toNat, madeCells #[.bool false] C.toNat, by omega, by rw [size_madeCells]; simp, ?_, fun w => ?_⟩
  · obtain ⟨m, hm⟩ : ∃ m, C.toNat = m + 1 := ⟨C.toNat - 1, by omega⟩
    rw [hm]
    have h0 : (madeCells #[Value.bool false] (m + 1)).toList[0]? = some (.bool false) := by simp [madeCells]
    match h : (madeCells #[Value.bool false] (m + 1)).toList, h0 with
    | a :: r, h0 => simp at h0; simp [h0]
  · have hr := run_make (P := Try.prog) w 25 4 i (.bool false) Try.underlying25 hi hz .i64 .i64 1 C (by omega) h1 (by rw [hb]; omega) (by omega)
    rw [hs, Nat.mul_one] at hr
    exact hr

set_option maxRecDepth 100000 in
set_option maxHeartbeats 2000000 in
theorem eall_any (g : Gr) (xs : List Bool) (A B : Option Addr) (c d : Nat) (w : World) (hg : GOk g) (hc : g.as.length ≤ c) (hp : Prs w w.heap.size A g.as) (hd : xs.length ≤ d) (hl : xs.length ≤ 140737488355328) (hx : Vals w w.heap.size B (bools xs)) :
    Calls Try.prog 29 #[.agg #[.int .i64 g.n, .slice A g.as.length c], .slice B xs.length d] w (RetB w (allG g xs)) := by
  have hnot := @not_run Try.prog
  have hmf : ∀ (fn : Fn) (first cap : Array Value) (w : World), (Instr.makeFunc fn first cap).run Try.prog w = .ok (.func fn first cap) w := fun _ _ _ _ => rfl
  have HX := Lib.hid hx
  have HP := Lib.hid hp
  have HOK := Lib.hid hg
  have H0 := Lib.hid (Boxed.begin_ (w := w) (g := g) (A := A) (c := c))
  clear hp hx hg
  go_enter Try.func29, Try.ntmps29
  go_wp2_with fail
  refine (Right_any g A c _ HOK.out (H0.out.prs HP.out)).mono ?_
  rintro e w1 ⟨rfl, hb1⟩
  have H1 := Lib.hid (H0.out.step hb1)
  clear hb1
  have c0 := H1.out.c0
  have c1 := H1.out.c1
  cases hr : rightB g
  · have HE : Hid (allG g xs = []) := by show allG g xs = []; unfold allG; rw [hr]; rfl
    go_wp2_with fail
    go_ret
    rw [HE.out]
    exact ⟨none, 0, rfl, Nat.le_refl _, Vals.nil, H1.out.low⟩
  · by_cases hn : (xs.length : Int) = g.n
    · have HE : Hid (allG g xs = valsAt g xs g.as.length) := allG_is hr hn
      have HR := Lib.hid hr
      obtain ⟨g0, g1, g2, g3⟩ := (size_iff g).1 (right_size hr)
      have hl2 : xs.length ≤ 2000 := by omega
      obtain ⟨i0, hi0, hz0, hz1, hz2⟩ := info_parts boolInfo
      clear hr
      obtain ⟨C, cs, hC, hcs, htk, hmk⟩ := make_bools (g.n + 1 + (g.as.length : Int)) (by omega) (by omega)
      have HCS := Lib.hid hcs
      have HTK := Lib.hid htk
      clear hcs htk
      have hs := H1.out.size
      have HO1 : Hid ((w1.alloc (.cells cs 4)).ownsRow (w.heap.size + 1) 4 1 (.slice (some ⟨w1.heap.size, 0, none⟩) 1 C) 1 [.bool false]) :=
        ⟨by simp, .inr ⟨w1.heap.size, C, cs, rfl, hs, heap_alloc_new w1 _, by omega, by unfold maxLen; omega, HCS.out, by simpa using HTK.out⟩⟩
      have HO2 := Lib.hid (HO1.out.alloc (.cells #[.slice (some ⟨w1.heap.size, 0, none⟩) 1 C] 25))
      have H2 := Lib.hid ((H1.out.alloc (.cells cs 4)).alloc (.cells #[.slice (some ⟨w1.heap.size, 0, none⟩) 1 C] 25))
      have HK2 : Hid (Blk ((w1.alloc (.cells cs 4)).alloc (.cells #[.slice (some ⟨w1.heap.size, 0, none⟩) 1 C] 25)) (w1.heap.size + 1) 25 #[.slice (some ⟨w1.heap.size, 0, none⟩) 1 C]) := by
        have := Blk.new (w1.alloc (.cells cs 4)) 25 #[.slice (some ⟨w1.heap.size, 0, none⟩) 1 C]
        rw [World.size_alloc] at this
        exact this
      clear HO1 HCS HTK
      go_wp2_with (first
        | (at_builtin; refine wpList_append_vals _ rfl (.tmp 27) (.tmp 28) _ rfl (w.heap.size + 1) 4 i0 _ 1 1 Try.underlying25 hi0 hz0 hz1 hz2 rfl (by omega) (.slice (some ⟨w1.heap.size, 0, none⟩) 1 C) 1 [.bool false] rfl HO2.out _ B xs.length d (bools xs) rfl (by simp [bools]) (H2.out.vals HX.out) (bools_one xs) (by unfold maxLen; omega) (by omega) (by simp; omega) ?_; intro v1 w2 hown2 hg2; obtain ⟨A2, d2, rfl, hcap2⟩ := own_form hown2; have H3 := Lib.hid (H2.out.grown hg2 (own_block HO2.out)); have HO3 := Lib.hid hown2; have HK3 := Lib.hid (HK2.out.by_ hg2 (by intro k hk; simp [Value.ownBlock] at hk; omega)); clear hown2 hg2 c0 c1; have c0 := H3.out.c0; have c1 := H3.out.c1; have k0 := HK3.out.cell 0; have k1 := HK3.out.frozen 0))
      clear c0 c1 k0 k1 HO2 HK2 H2 H0 H1
      go_loopw [34] (fun i wr => ∃ (k : Nat) (A' : Option Addr) (c' : Nat), k ≤ g.as.length ∧ i = .int .i64 k ∧ OwnF wr (w.heap.size + 1) 4 1 (.slice A' (valsAt g xs k).length c') (valsAt g xs k).length (bools (valsAt g xs k)) ∧ BlkF wr (w1.heap.size + 1) 25 #[.slice A' (valsAt g xs k).length c'] ∧ Boxed w wr g A c) (fun i _ => g.as.length - (intOf i).toNat)
      case atStart =>
        have hl0 : (valsAt g xs 0).length = 1 + xs.length := by rw [valsAt_zero]; simp; omega
        refine ⟨0, A2, d2, Nat.zero_le _, rfl, ⟨?_⟩, ⟨?_⟩, ⟨?_⟩⟩
        · rw [hl0, valsAt_zero]
          exact own_set HO3.out HK3.out (by decide) 0 _
        · rw [hl0]
          exact HK3.out.set_ 0 _
        · exact H3.out.below.setCell (by simp; omega) _
      case round =>
        clear H3 HO3 HK3
        obtain ⟨k, A', c', hk, rfl, hown, hvar, hbx⟩ := hrel
        have HO := Lib.hid hown
        have HV := Lib.hid hvar
        have HB := Lib.hid hbx
        have k0 := HV.out.cell 0
        have k1 := HV.out.p.frozen 0
        have HVL : Hid ((valsAt g xs k).length = 1 + xs.length + k) := valsAt_length hk
        clear hown hbx hvar
        by_cases hlt : k < g.as.length
        · have hlt' : (k : Int) < (g.as.length : Int) := by omega
          obtain ⟨⟨p1, p2⟩, hpk⟩ : ∃ q, g.as[k]? = some q := ⟨_, List.getElem?_eq_getElem hlt⟩
          obtain ⟨b', o', rfl, _, q1, q2⟩ := (HB.out.prs HP.out) k _ hpk
          obtain ⟨r1, r2, r3, r4, r5, r6⟩ := gate_lits HR.out hpk
          simp only at r1 r2 r3 r4 r5 r6
          have HPK := Lib.hid hpk
          clear hpk
          have V1 : Hid (p1 / 2 < ((valsAt g xs k).length : Int)) := by show p1 / 2 < _; rw [HVL.out]; omega
          have V2 : Hid (p2 / 2 < ((valsAt g xs k).length : Int)) := by show p2 / 2 < _; rw [HVL.out]; omega
          have hs := HB.out.size
          go_wp2_with fail
          have HOa : Hid (World.ownsRow (wr.alloc (.cells #[.int .i64 p1, .int .i64 p2] 41)) (w.heap.size + 1) 4 1 (.slice A' (valsAt g xs k).length c') (valsAt g xs k).length (bools (valsAt g xs k))) := HO.out.p.alloc _
          have HVa := Lib.hid (HV.out.step (stepA wr (.cells #[.int .i64 p1, .int .i64 p2] 41)))
          have HBa := Lib.hid (HB.out.alloc (.cells #[.int .i64 p1, .int .i64 p2] 41))
          have HPa := Lib.hid (Blk.new wr 41 #[.int .i64 p1, .int .i64 p2])
          have hsa : wr.heap.size < (wr.alloc (.cells #[.int .i64 p1, .int .i64 p2] 41)).heap.size := by simp
          have hvb : w1.heap.size + 1 < wr.heap.size := HV.out.p.lt
          generalize wr.alloc (.cells #[.int .i64 p1, .int .i64 p2] 41) = wa at HOa HVa HBa HPa hsa ⊢
          generalize hpb : wr.heap.size = pb at HPa hsa hvb ⊢
          clear k0 k1 q1 q2 HO HB HV hpb
          have k0 := HVa.out.cell 0
          have k1 := HVa.out.p.frozen 0
          have q1 := HPa.out.cell 0
          have q2 := HPa.out.cell 1
          have HX1 : Hid (Calls Try.prog 62 #[.int .i64 p1, .pointer (some ⟨w1.heap.size + 1, 0, none⟩)] wa.drew (fun e w' => e = .returned (.bool (bitB (valsAt g xs k) p1)) ∧ w' = wa.drew)) :=
            ebit_still (valsAt g xs k) p1 A' c' _ wa.drew r1 V1.out (by omega) k0 (Vals.of_own HOa.out.drew)
          have HX2 : Hid (Calls Try.prog 62 #[.int .i64 p2, .pointer (some ⟨w1.heap.size + 1, 0, none⟩)] wa.drew (fun e w' => e = .returned (.bool (bitB (valsAt g xs k) p2)) ∧ w' = wa.drew)) :=
            ebit_still (valsAt g xs k) p2 A' c' _ wa.drew r3 V2.out (by omega) k0 (Vals.of_own HOa.out.drew)
          have HS : Hid (valsAt g xs (k + 1) = valsAt g xs k ++ [bitB (valsAt g xs k) p1 && bitB (valsAt g xs k) p2]) := valsAt_succ HPK.out
          generalize bitB (valsAt g xs k) p1 = y1 at HX1 HS
          generalize bitB (valsAt g xs k) p2 = y2 at HX2 HS
          have HNE : Hid (∀ n, (Value.slice A' (valsAt g xs k).length c').ownBlock = some n → n ≠ pb) := own_ne HOa.out HPa.out (by decide)
          have hne : w1.heap.size + 1 ≠ pb := by omega
          have hs2 := HBa.out.size
          have HSW : Hid (wa.drew.cell? ⟨w1.heap.size + 1, 0, none⟩ = some (.slice A' (valsAt g xs k).length c') ∧ wa.drew.cell? ⟨pb, 0, none⟩ = some (.int .i64 p1) ∧ wa.drew.cell? ⟨pb, 1, none⟩ = some (.int .i64 p2)) := ⟨k0, q1, q2⟩
          refine wp_region_noPanic ?_
          refine wp_region_seq (fun W => W.cell? ⟨w1.heap.size + 1, 0, none⟩ = some (.slice A' (valsAt g xs k).length c') ∧ W.cell? ⟨pb, 0, none⟩ = some (.int .i64 p1) ∧ W.cell? ⟨pb, 1, none⟩ = some (.int .i64 p2)) [0, 1, 2, 3, 4, 5, 6, 7, 8, 9, 10, 11, 12, 13] [0, 1, 2, 3, 5, 6, 7, 8, 10] [13] (by kernel_rfl) (by kernel_rfl) rfl (by kernel_rfl) (by kernel_rfl) (fun _ _ _ _ _ h => h) HSW.out (fun _ => ?_)
          cases y1
          ·
            (refine wpSeq_mov rfl rfl ?_; intro o ho; simp only [List.getElem?_toArray, List.getElem?_cons_zero, List.getElem?_cons_succ, Option.some.injEq] at ho; subst ho; refine ⟨?_, Or.inl ⟨by rfl, fun W hSW => ?_⟩, ?_⟩; rotate_left; (focus (go_simp; first | done | with_reducible rfl)); try simp only [Act.put, List.setIfInBounds_toArray, List.set_cons_zero, List.set_cons_succ])
            (refine wpSeq_mov rfl rfl ?_; intro o ho; simp only [List.getElem?_toArray, List.getElem?_cons_zero, List.getElem?_cons_succ, Option.some.injEq] at ho; subst ho; refine ⟨?_, Or.inl ⟨by rfl, fun W hSW => ?_⟩, ?_⟩; rotate_left; (focus (go_simp; first | done | with_reducible rfl)); try simp only [Act.put, List.setIfInBounds_toArray, List.set_cons_zero, List.set_cons_succ])
            (refine wpSeq_mov rfl rfl ?_; intro o ho; simp only [List.getElem?_toArray, List.getElem?_cons_zero, List.getElem?_cons_succ, Option.some.injEq] at ho; subst ho; refine ⟨?_, Or.inl ⟨by rfl, fun W hSW => ?_⟩, ?_⟩; rotate_left; (focus (go_simp; first | done | with_reducible rfl)); try simp only [Act.put, List.setIfInBounds_toArray, List.set_cons_zero, List.set_cons_succ])
            (refine wpSeq_mov rfl rfl ?_; intro o ho; simp only [List.getElem?_toArray, List.getElem?_cons_zero, List.getElem?_cons_succ, Option.some.injEq] at ho; subst ho; refine ⟨?_, Or.inl ⟨by rfl, fun W hSW => ?_⟩, ?_⟩; rotate_left; (focus (go_simp; first | done | with_reducible rfl)); try simp only [Act.put, List.setIfInBounds_toArray, List.set_cons_zero, List.set_cons_succ])
            (refine wpSeq_fix rfl rfl ?_; intro o ho; simp only [List.getElem?_toArray, List.getElem?_cons_zero, List.getElem?_cons_succ, Option.some.injEq] at ho; subst ho; intro K hK)
            go_simp
            refine HX1.out.mono ?_
            rintro e w' ⟨rfl, rfl⟩
            (refine hK.out _ _ (fun _ => HSW.out) ?_; clear hK K; try simp only [Act.put, List.setIfInBounds_toArray, List.set_cons_zero, List.set_cons_succ])
            (refine wpSeq_mov rfl rfl ?_; intro o ho; simp only [List.getElem?_toArray, List.getElem?_cons_zero, List.getElem?_cons_succ, Option.some.injEq] at ho; subst ho; refine ⟨?_, Or.inl ⟨by rfl, fun W hSW => ?_⟩, ?_⟩; rotate_left; (focus (go_simp; first | done | with_reducible rfl)); try simp only [Act.put, List.setIfInBounds_toArray, List.set_cons_zero, List.set_cons_succ])
            (refine wpSeq_mov rfl rfl ?_; intro o ho; simp only [List.getElem?_toArray, List.getElem?_cons_zero, List.getElem?_cons_succ, Option.some.injEq] at ho; subst ho; refine ⟨undef, Or.inr ⟨by rfl, rfl⟩, ?_⟩; try simp only [Act.put, List.setIfInBounds_toArray, List.set_cons_zero, List.set_cons_succ])
            (refine wpSeq_mov rfl rfl ?_; intro o ho; simp only [List.getElem?_toArray, List.getElem?_cons_zero, List.getElem?_cons_succ, Option.some.injEq] at ho; subst ho; refine ⟨undef, Or.inr ⟨by rfl, rfl⟩, ?_⟩; try simp only [Act.put, List.setIfInBounds_toArray, List.set_cons_zero, List.set_cons_succ])
            (refine wpSeq_mov rfl rfl ?_; intro o ho; simp only [List.getElem?_toArray, List.getElem?_cons_zero, List.getElem?_cons_succ, Option.some.injEq] at ho; subst ho; refine ⟨undef, Or.inr ⟨by rfl, rfl⟩, ?_⟩; try simp only [Act.put, List.setIfInBounds_toArray, List.set_cons_zero, List.set_cons_succ])
            (refine wpSeq_fix rfl rfl ?_; intro o ho; simp only [List.getElem?_toArray, List.getElem?_cons_zero, List.getElem?_cons_succ, Option.some.injEq] at ho; subst ho; intro K hK)
            go_simp
            (refine hK.out _ _ (fun _ => HSW.out) ?_; clear hK K; try simp only [Act.put, List.setIfInBounds_toArray, List.set_cons_zero, List.set_cons_succ])
            (refine wpSeq_mov rfl rfl ?_; intro o ho; simp only [List.getElem?_toArray, List.getElem?_cons_zero, List.getElem?_cons_succ, Option.some.injEq] at ho; subst ho; refine ⟨?_, Or.inl ⟨by rfl, fun W hSW => ?_⟩, ?_⟩; rotate_left; (focus (go_simp; first | done | with_reducible rfl)); try simp only [Act.put, List.setIfInBounds_toArray, List.set_cons_zero, List.set_cons_succ])
            (refine wpSeq_fix rfl rfl ?_; intro o ho; simp only [List.getElem?_toArray, List.getElem?_cons_zero, List.getElem?_cons_succ, Option.some.injEq] at ho; subst ho; intro K hK)
            go_simp
            (refine hK.out _ _ (fun _ => by go_keep) ?_; clear hK K; try simp only [Act.put, List.setIfInBounds_toArray, List.set_cons_zero, List.set_cons_succ])
            (refine wpSeq_fix rfl rfl ?_; intro o ho; simp only [List.getElem?_toArray, List.getElem?_cons_zero, List.getElem?_cons_succ, Option.some.injEq] at ho; subst ho; intro K hK)
            rw [if_pos (by rfl)]
            refine wp_append_own _ (.tmp 38) (.tmp 49) _ rfl (w.heap.size + 1) 4 i0 _ 1 1 Try.underlying25 hi0 hz0 hz1 hz2 rfl (by omega) (.slice A' (valsAt g xs k).length c') (valsAt g xs k).length (bools (valsAt g xs k)) rfl (HOa.out.drew.alloc _) _ 1 1 [.bool false] rfl rfl (cells_new _ [.bool false] 4) (bools_one [false]) (by rw [HVL.out]; unfold maxLen; omega) (by rw [HVL.out]; omega) (by simp; omega) ?_
            intro v5 w5 hown5 hg5 _
            obtain ⟨A6, c6, rfl, hcap6⟩ := own_form hown5
            have HO5 := Lib.hid hown5
            have HV5 := Lib.hid (((HVa.out.p.drew).alloc _).by_ hg5 (own_ne HOa.out HVa.out.p (by decide)))
            have HB5 := Lib.hid (((HBa.out.step (stepD1 _)).alloc _).grown hg5 (own_block HOa.out))
            have HP5 := Lib.hid (((HPa.out.drew).alloc _).by_ hg5 (own_ne HOa.out HPa.out (by decide)))
            clear hown5 hg5 k0 k1 q1 q2
            have k0 := HV5.out.cell 0
            have k1 := HV5.out.frozen 0
            (refine hK.out _ _ (fun _ => ⟨HV5.out.cell 0, HP5.out.cell 0, HP5.out.cell 1⟩) ?_; clear hK K; try simp only [Act.put, List.setIfInBounds_toArray, List.set_cons_zero, List.set_cons_succ])
            (refine wpSeq_fix rfl rfl ?_; intro o ho; simp only [List.getElem?_toArray, List.getElem?_cons_zero, List.getElem?_cons_succ, Option.some.injEq] at ho; subst ho; intro K hK)
            go_simp
            (refine hK.out _ _ (fun h => by simp at h) ?_; clear hK K; try simp only [Act.put, List.setIfInBounds_toArray, List.set_cons_zero, List.set_cons_succ])
            refine wpSeq_done ?_
            go_wp2_with fail
            go_roundw
            case rel =>
              have hl6 : (valsAt g xs (k + 1)).length = (valsAt g xs k).length + 1 := by rw [HS.out]; simp
              refine ⟨k + 1, A6, c6, by omega, by go_num, ⟨?_⟩, ⟨?_⟩, ⟨?_⟩⟩
              · rw [hl6, HS.out, bools_snoc]
                exact own_set HO5.out HV5.out (by decide) 0 _
              · rw [hl6]
                exact HV5.out.set_ 0 _
              · exact HB5.out.below.setCell (by simp; omega) _
            case measure => simp [intOf]; omega
          ·
            (refine wpSeq_mov rfl rfl ?_; intro o ho; simp only [List.getElem?_toArray, List.getElem?_cons_zero, List.getElem?_cons_succ, Option.some.injEq] at ho; subst ho; refine ⟨?_, Or.inl ⟨by rfl, fun W hSW => ?_⟩, ?_⟩; rotate_left; (focus (go_simp; first | done | with_reducible rfl)); try simp only [Act.put, List.setIfInBounds_toArray, List.set_cons_zero, List.set_cons_succ])
            (refine wpSeq_mov rfl rfl ?_; intro o ho; simp only [List.getElem?_toArray, List.getElem?_cons_zero, List.getElem?_cons_succ, Option.some.injEq] at ho; subst ho; refine ⟨?_, Or.inl ⟨by rfl, fun W hSW => ?_⟩, ?_⟩; rotate_left; (focus (go_simp; first | done | with_reducible rfl)); try simp only [Act.put, List.setIfInBounds_toArray, List.set_cons_zero, List.set_cons_succ])
            (refine wpSeq_mov rfl rfl ?_; intro o ho; simp only [List.getElem?_toArray, List.getElem?_cons_zero, List.getElem?_cons_succ, Option.some.injEq] at ho; subst ho; refine ⟨?_, Or.inl ⟨by rfl, fun W hSW => ?_⟩, ?_⟩; rotate_left; (focus (go_simp; first | done | with_reducible rfl)); try simp only [Act.put, List.setIfInBounds_toArray, List.set_cons_zero, List.set_cons_succ])
            (refine wpSeq_mov rfl rfl ?_; intro o ho; simp only [List.getElem?_toArray, List.getElem?_cons_zero, List.getElem?_cons_succ, Option.some.injEq] at ho; subst ho; refine ⟨?_, Or.inl ⟨by rfl, fun W hSW => ?_⟩, ?_⟩; rotate_left; (focus (go_simp; first | done | with_reducible rfl)); try simp only [Act.put, List.setIfInBounds_toArray, List.set_cons_zero, List.set_cons_succ])
            (refine wpSeq_fix rfl rfl ?_; intro o ho; simp only [List.getElem?_toArray, List.getElem?_cons_zero, List.getElem?_cons_succ, Option.some.injEq] at ho; subst ho; intro K hK)
            go_simp
            refine HX1.out.mono ?_
            rintro e w' ⟨rfl, rfl⟩
            (refine hK.out _ _ (fun _ => HSW.out) ?_; clear hK K; try simp only [Act.put, List.setIfInBounds_toArray, List.set_cons_zero, List.set_cons_succ])
            (refine wpSeq_mov rfl rfl ?_; intro o ho; simp only [List.getElem?_toArray, List.getElem?_cons_zero, List.getElem?_cons_succ, Option.some.injEq] at ho; subst ho; refine ⟨?_, Or.inl ⟨by rfl, fun W hSW => ?_⟩, ?_⟩; rotate_left; (focus (go_simp; first | done | with_reducible rfl)); try simp only [Act.put, List.setIfInBounds_toArray, List.set_cons_zero, List.set_cons_succ])
            (refine wpSeq_mov rfl rfl ?_; intro o ho; simp only [List.getElem?_toArray, List.getElem?_cons_zero, List.getElem?_cons_succ, Option.some.injEq] at ho; subst ho; refine ⟨?_, Or.inl ⟨by rfl, fun W hSW => ?_⟩, ?_⟩; rotate_left; (focus (go_simp; first | done | with_reducible rfl)); try simp only [Act.put, List.setIfInBounds_toArray, List.set_cons_zero, List.set_cons_succ])
            (refine wpSeq_mov rfl rfl ?_; intro o ho; simp only [List.getElem?_toArray, List.getElem?_cons_zero, List.getElem?_cons_succ, Option.some.injEq] at ho; subst ho; refine ⟨?_, Or.inl ⟨by rfl, fun W hSW => ?_⟩, ?_⟩; rotate_left; (focus (go_simp; first | done | with_reducible rfl)); try simp only [Act.put, List.setIfInBounds_toArray, List.set_cons_zero, List.set_cons_succ])
            (refine wpSeq_mov rfl rfl ?_; intro o ho; simp only [List.getElem?_toArray, List.getElem?_cons_zero, List.getElem?_cons_succ, Option.some.injEq] at ho; subst ho; refine ⟨?_, Or.inl ⟨by rfl, fun W hSW => ?_⟩, ?_⟩; rotate_left; (focus (go_simp; first | done | with_reducible rfl)); try simp only [Act.put, List.setIfInBounds_toArray, List.set_cons_zero, List.set_cons_succ])
            (refine wpSeq_fix rfl rfl ?_; intro o ho; simp only [List.getElem?_toArray, List.getElem?_cons_zero, List.getElem?_cons_succ, Option.some.injEq] at ho; subst ho; intro K hK)
            go_simp
            refine HX2.out.mono ?_
            rintro e w' ⟨rfl, rfl⟩
            (refine hK.out _ _ (fun _ => HSW.out) ?_; clear hK K; try simp only [Act.put, List.setIfInBounds_toArray, List.set_cons_zero, List.set_cons_succ])
            (refine wpSeq_mov rfl rfl ?_; intro o ho; simp only [List.getElem?_toArray, List.getElem?_cons_zero, List.getElem?_cons_succ, Option.some.injEq] at ho; subst ho; refine ⟨?_, Or.inl ⟨by rfl, fun W hSW => ?_⟩, ?_⟩; rotate_left; (focus (go_simp; first | done | with_reducible rfl)); try simp only [Act.put, List.setIfInBounds_toArray, List.set_cons_zero, List.set_cons_succ])
            (refine wpSeq_fix rfl rfl ?_; intro o ho; simp only [List.getElem?_toArray, List.getElem?_cons_zero, List.getElem?_cons_succ, Option.some.injEq] at ho; subst ho; intro K hK)
            go_simp
            (refine hK.out _ _ (fun _ => by go_keep) ?_; clear hK K; try simp only [Act.put, List.setIfInBounds_toArray, List.set_cons_zero, List.set_cons_succ])
            (refine wpSeq_fix rfl rfl ?_; intro o ho; simp only [List.getElem?_toArray, List.getElem?_cons_zero, List.getElem?_cons_succ, Option.some.injEq] at ho; subst ho; intro K hK)
            rw [if_pos (by rfl)]
            refine wp_append_own _ (.tmp 38) (.tmp 49) _ rfl (w.heap.size + 1) 4 i0 _ 1 1 Try.underlying25 hi0 hz0 hz1 hz2 rfl (by omega) (.slice A' (valsAt g xs k).length c') (valsAt g xs k).length (bools (valsAt g xs k)) rfl (HOa.out.drew.alloc _) _ 1 1 [.bool y2] rfl rfl (cells_new _ [.bool y2] 4) (bools_one [y2]) (by rw [HVL.out]; unfold maxLen; omega) (by rw [HVL.out]; omega) (by simp; omega) ?_
            intro v5 w5 hown5 hg5 _
            obtain ⟨A6, c6, rfl, hcap6⟩ := own_form hown5
            have HO5 := Lib.hid hown5
            have HV5 := Lib.hid (((HVa.out.p.drew).alloc _).by_ hg5 (own_ne HOa.out HVa.out.p (by decide)))
            have HB5 := Lib.hid (((HBa.out.step (stepD1 _)).alloc _).grown hg5 (own_block HOa.out))
            have HP5 := Lib.hid (((HPa.out.drew).alloc _).by_ hg5 (own_ne HOa.out HPa.out (by decide)))
            clear hown5 hg5 k0 k1 q1 q2
            have k0 := HV5.out.cell 0
            have k1 := HV5.out.frozen 0
            (refine hK.out _ _ (fun _ => ⟨HV5.out.cell 0, HP5.out.cell 0, HP5.out.cell 1⟩) ?_; clear hK K; try simp only [Act.put, List.setIfInBounds_toArray, List.set_cons_zero, List.set_cons_succ])
            (refine wpSeq_fix rfl rfl ?_; intro o ho; simp only [List.getElem?_toArray, List.getElem?_cons_zero, List.getElem?_cons_succ, Option.some.injEq] at ho; subst ho; intro K hK)
            go_simp
            (refine hK.out _ _ (fun h => by simp at h) ?_; clear hK K; try simp only [Act.put, List.setIfInBounds_toArray, List.set_cons_zero, List.set_cons_succ])
            refine wpSeq_done ?_
            go_wp2_with fail
            go_roundw
            case rel =>
              have hl6 : (valsAt g xs (k + 1)).length = (valsAt g xs k).length + 1 := by rw [HS.out]; simp
              refine ⟨k + 1, A6, c6, by omega, by go_num, ⟨?_⟩, ⟨?_⟩, ⟨?_⟩⟩
              · rw [hl6, HS.out, bools_snoc]
                exact own_set HO5.out HV5.out (by decide) 0 _
              · rw [hl6]
                exact HV5.out.set_ 0 _
              · exact HB5.out.below.setCell (by simp; omega) _
            case measure => simp [intOf]; omega
        · have hlt' : ¬ ((k : Int) < (g.as.length : Int)) := by omega
          obtain rfl : k = g.as.length := by omega
          go_wp2_with fail
          go_ret
          rw [HE.out]
          exact ⟨A', c', rfl, own_cap HO.out.p, Vals.of_own HO.out.p, HB.out.low⟩
    · have HE : Hid (allG g xs = []) := by show allG g xs = []; unfold allG; rw [hr, decide_eq_false hn]; rfl
      have hn' : ¬ ((xs.length : Int) = g.n) := hn
      clear hr
      go_wp2_with fail
      go_ret
      rw [HE.out]
      exact ⟨none, 0, rfl, Nat.le_refl _, Vals.nil, H1.out.low⟩
end Go.Proofs.Ytbdhkagcbncefaa
