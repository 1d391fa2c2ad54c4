/- Layer 2, the document's: what a literal is by inputs that may be either. -/
import Derived.Test.YtbdhkagcbncefaaTold
import Derived.Test.YtbdhkagcbncefaaSeq
set_option linter.unusedVariables false
set_option linter.unusedSimpArgs false
namespace Go.Proofs.Ytbdhkagcbncefaa
open Go.RowKit Go.Maps

/-- Inputs' values behind so many. -/
def toldAt (xs : List Int) (k : Nat) : List Int := 0 :: (xs.take k).map told3
theorem toldAt_zero (xs : List Int) : toldAt xs 0 = [0] := by simp [toldAt]
theorem toldAt_succ {xs : List Int} {k : Nat} {x : Int} (h : xs[k]? = some x) : toldAt xs (k + 1) = toldAt xs k ++ [told3 x] := by
  unfold toldAt
  rw [List.take_add_one, h]
  simp
theorem toldAt_length {xs : List Int} {k : Nat} (h : k ≤ xs.length) : (toldAt xs k).length = k + 1 := by
  simp [toldAt, Nat.min_eq_left h]
theorem toldAt_all (g : Gr) (xs : List Int) : toldAt xs xs.length = vals3At g xs 0 := by
  rw [vals3At_zero]
  simp [toldAt]

theorem lit3_vals {g : Gr} {xs : List Int} {l : Int} (hn : (xs.length : Int) = g.n) (hl : litB g l = true) : 0 ≤ l ∧ l / 2 < ((vals3At g xs g.as.length).length : Int) ∧ l ≤ 4001 ∨ rightB g = false := by
  cases hr : rightB g
  · exact .inr rfl
  · obtain ⟨a, b, c, d⟩ := (litB_iff g l).1 hl
    obtain ⟨h0, h1, h2, h3⟩ := (size_iff g).1 (right_size hr)
    rw [vals3At_length (Nat.le_refl _)]
    left
    omega

set_option maxRecDepth 100000 in
set_option maxHeartbeats 4000000 in
theorem rThree_any (g : Gr) (l : Int) (xs : List Int) (A B : Option Addr) (c d : Nat) (w : World) (hg : GOk g) (hc : g.as.length ≤ c) (hp : Prs w w.heap.size A g.as) (hl : xs.length ≤ 17592186044416) (hx : Vals w w.heap.size B (i64s xs)) (hll : l ≤ 9223372036854775807) :
    Calls Try.prog 34 #[.agg #[.int .i64 g.n, .slice A g.as.length c], .int .i64 l, .slice B xs.length d] w (Ret w (.int .i64 (threeG g l xs))) := by
  have hnot := @not_run Try.prog
  have HX := Lib.hid hx
  have HP := Lib.hid hp
  have HOK := Lib.hid hg
  have hgl : g.as.length ≤ 8796093022208 := hg.2.1
  have HB := Lib.hid (Boxed.begin_ (w := w) (g := g) (A := A) (c := c))
  clear hp hx hg
  go_enter Try.func34, Try.ntmps34
  go_wp2_with fail
  refine (rright_any g A c _ HOK.out (HB.out.prs HP.out)).mono ?_
  rintro e w1 ⟨rfl, hb⟩
  replace HB := Lib.hid (HB.out.step hb)
  clear hb
  have c0 := HB.out.c0
  have c1 := HB.out.c1
  cases hr : rightB g
  · have HE : Hid (threeG g l xs = 2) := by show threeG g l xs = 2; unfold threeG; rw [hr]; rfl
    go_wp2_with fail
    go_ret
    exact Ret.mk (by rw [HE.out]; first | done | rfl) HB.out.low
  · by_cases hn : (xs.length : Int) = g.n
    · have HR := Lib.hid hr
      have HR' : Hid (rightB g = true) := hr
      clear hr
      have HN := Lib.hid hn
      go_wp2_with fail
      refine (rlit_any g l A c _ hgl hll).mono ?_
      rintro e w2 ⟨rfl, hb⟩
      replace HB := Lib.hid (HB.out.step hb)
      clear hb
      replace c0 := HB.out.c0
      replace c1 := HB.out.c1
      cases hlt : litB g l
      · have HE : Hid (threeG g l xs = 2) := by show threeG g l xs = 2; unfold threeG; rw [hlt]; simp
        go_wp2_with fail
        go_ret
        exact Ret.mk (by rw [HE.out]; first | done | rfl) HB.out.low
      · have HE : Hid (threeG g l xs = bit3 (vals3At g xs g.as.length) l) := by show threeG g l xs = _; unfold threeG; rw [hlt, HR.out, decide_eq_true HN.out]; rfl
        have HL : Hid (0 ≤ l ∧ l / 2 < ((vals3At g xs g.as.length).length : Int) ∧ l ≤ 4001) := by
          rcases lit3_vals HN.out hlt with h | h
          · exact h
          · rw [HR.out] at h; cases h
        obtain ⟨g0, g1, g2, g3⟩ := (size_iff g).1 (right_size HR.out)
        have hl2 : xs.length ≤ 2000 := by omega
        obtain ⟨i0, hi0, hz0, hz1, hz2⟩ := info_parts intInfo
        clear hlt
        have HO1 := Lib.hid (World.ownsRow_lit (base := w.heap.size + 1) (e := 3) (size := 1) w2 #[.int .i64 0] 1 HB.out.size (by unfold maxLen; omega) rfl)
        replace HB := Lib.hid (HB.out.alloc (.cells #[.int .i64 0] 3))
        clear c0 c1
        go_wp2_with fail
        go_loopw [7, 8] (fun v i wr => ∃ (k : Nat) (A' : Option Addr) (c' : Nat), k ≤ xs.length ∧ v = .slice A' (toldAt xs k).length c' ∧ i = .int .i64 k ∧ OwnF wr (w.heap.size + 1) 3 1 (.slice A' (toldAt xs k).length c') (toldAt xs k).length (i64s (toldAt xs k)) ∧ Boxed w wr g A c) (fun _ i _ => xs.length - (intOf i).toNat)
        case atStart =>
          refine ⟨0, some ⟨w2.heap.size, 0, none⟩, 1, Nat.zero_le _, by rw [toldAt_zero]; rfl, rfl, ⟨?_⟩, HB.out⟩
          rw [toldAt_zero]
          exact HO1.out
        case round =>
          obtain ⟨k, A', c', hk, rfl, rfl, hown, hbx⟩ := hrel
          clear HB HO1
          have HO := Lib.hid hown
          have HB := Lib.hid hbx
          have HVL : Hid ((toldAt xs k).length = k + 1) := toldAt_length hk
          clear hown hbx
          by_cases hlt : k < xs.length
          · have hlt' : (k : Int) < (xs.length : Int) := by omega
            obtain ⟨x, hxk⟩ : ∃ q, xs[k]? = some q := ⟨_, List.getElem?_eq_getElem hlt⟩
            obtain ⟨b', o', rfl, _, q1⟩ := (HB.out.vals HX.out) k _ (i64s_at hxk)
            have HXK := Lib.hid hxk
            clear hxk
            have hs := HB.out.size
            obtain ⟨y, hy, hyx⟩ : ∃ y, y = told3 x ∧ ((x = 0 ∧ y = 0) ∨ (x = 1 ∧ y = 1) ∨ ((x != 0) = true ∧ (x != 1) = true ∧ y = 2)) := by
              refine ⟨_, rfl, ?_⟩
              unfold told3
              by_cases h0 : x = 0
              · left; subst h0; exact ⟨rfl, rfl⟩
              · by_cases h1 : x = 1
                · right; left; subst h1; exact ⟨rfl, rfl⟩
                · right; right; rw [if_neg (by omega)]; exact ⟨by simpa using h0, by simpa using h1, rfl⟩
            have HY := Lib.hid hy
            clear hy
            rcases hyx with ⟨rfl, rfl⟩ | ⟨rfl, rfl⟩ | ⟨x0, x1, rfl⟩
            · go_wp2_with (first | (at_builtin; refine wpList_append_vals _ rfl (.tmp 46) (.tmp 48) _ rfl (w.heap.size + 1) 3 i0 _ 1 8 Try.underlying26 hi0 hz0 hz1 hz2 rfl (by omega) (.slice A' (toldAt xs k).length c') (toldAt xs k).length (i64s (toldAt xs k)) rfl (HO.out.p.alloc _) _ _ 1 1 [.int .i64 0] rfl rfl (vals_new wr [.int .i64 0] 3) (i64s_one [0]) (by rw [HVL.out]; unfold maxLen; omega) (by rw [HVL.out]; omega) (by simp; omega) ?_; intro v5 w5 hown5 hg5; have HO5 := Lib.hid hown5; have HB5 := Lib.hid ((HB.out.alloc (.cells #[.int .i64 0] 3)).grown hg5 (own_block HO.out.p)); clear hown5 hg5))
              go_roundw
              case rel =>
                obtain ⟨A6, c6, hv6, _⟩ := own_form HO5.out
                subst hv6
                have hl6 : (toldAt xs (k + 1)).length = (toldAt xs k).length + 1 := by rw [toldAt_succ HXK.out]; simp
                refine ⟨k + 1, A6, c6, by omega, by rw [hl6], by go_num, ⟨?_⟩, HB5.out⟩
                rw [hl6, toldAt_succ HXK.out, i64s_snoc, ← HY.out]
                exact HO5.out
              case measure => simp [intOf]; omega
            · go_wp2_with (first | (at_builtin; refine wpList_append_vals _ rfl (.tmp 46) (.tmp 48) _ rfl (w.heap.size + 1) 3 i0 _ 1 8 Try.underlying26 hi0 hz0 hz1 hz2 rfl (by omega) (.slice A' (toldAt xs k).length c') (toldAt xs k).length (i64s (toldAt xs k)) rfl (HO.out.p.alloc _) _ _ 1 1 [.int .i64 1] rfl rfl (vals_new wr [.int .i64 1] 3) (i64s_one [1]) (by rw [HVL.out]; unfold maxLen; omega) (by rw [HVL.out]; omega) (by simp; omega) ?_; intro v5 w5 hown5 hg5; have HO5 := Lib.hid hown5; have HB5 := Lib.hid ((HB.out.alloc (.cells #[.int .i64 1] 3)).grown hg5 (own_block HO.out.p)); clear hown5 hg5))
              go_roundw
              case rel =>
                obtain ⟨A6, c6, hv6, _⟩ := own_form HO5.out
                subst hv6
                have hl6 : (toldAt xs (k + 1)).length = (toldAt xs k).length + 1 := by rw [toldAt_succ HXK.out]; simp
                refine ⟨k + 1, A6, c6, by omega, by rw [hl6], by go_num, ⟨?_⟩, HB5.out⟩
                rw [hl6, toldAt_succ HXK.out, i64s_snoc, ← HY.out]
                exact HO5.out
              case measure => simp [intOf]; omega
            · go_wp2_with (first | (at_builtin; refine wpList_append_vals _ rfl (.tmp 46) (.tmp 48) _ rfl (w.heap.size + 1) 3 i0 _ 1 8 Try.underlying26 hi0 hz0 hz1 hz2 rfl (by omega) (.slice A' (toldAt xs k).length c') (toldAt xs k).length (i64s (toldAt xs k)) rfl (HO.out.p.alloc _) _ _ 1 1 [.int .i64 2] rfl rfl (vals_new wr [.int .i64 2] 3) (i64s_one [2]) (by rw [HVL.out]; unfold maxLen; omega) (by rw [HVL.out]; omega) (by simp; omega) ?_; intro v5 w5 hown5 hg5; have HO5 := Lib.hid hown5; have HB5 := Lib.hid ((HB.out.alloc (.cells #[.int .i64 2] 3)).grown hg5 (own_block HO.out.p)); clear hown5 hg5))
              go_roundw
              case rel =>
                obtain ⟨A6, c6, hv6, _⟩ := own_form HO5.out
                subst hv6
                have hl6 : (toldAt xs (k + 1)).length = (toldAt xs k).length + 1 := by rw [toldAt_succ HXK.out]; simp
                refine ⟨k + 1, A6, c6, by omega, by rw [hl6], by go_num, ⟨?_⟩, HB5.out⟩
                rw [hl6, toldAt_succ HXK.out, i64s_snoc, ← HY.out]
                exact HO5.out
              case measure => simp [intOf]; omega
          · have hlt' : ¬ ((k : Int) < (xs.length : Int)) := by omega
            obtain rfl : k = xs.length := by omega
            have HTA := Lib.hid (toldAt_all g xs)
            rw [HTA.out] at HO HVL
            rw [HTA.out]
            clear hlt
            go_wp2_with fail
            obtain ⟨wo, rfl⟩ : ∃ wo : World, wo = wr := ⟨_, rfl⟩
            go_loopw [7, 10] (fun v i wr => ∃ (k : Nat) (A' : Option Addr) (c' : Nat), k ≤ g.as.length ∧ v = .slice A' (vals3At g xs k).length c' ∧ i = .int .i64 k ∧ OwnF wr (w.heap.size + 1) 3 1 (.slice A' (vals3At g xs k).length c') (vals3At g xs k).length (i64s (vals3At g xs k)) ∧ Boxed w wr g A c) (fun _ i _ => g.as.length - (intOf i).toNat)
            case atStart => exact ⟨0, A', c', Nat.zero_le _, rfl, rfl, HO.out, HB.out⟩
            case round =>
              clear HO HB HVL
              obtain ⟨k, A', c', hk, rfl, rfl, hown, hbx⟩ := hrel
              have HO := Lib.hid hown
              have HB := Lib.hid hbx
              have HVL : Hid ((vals3At g xs k).length = 1 + xs.length + k) := vals3At_length hk
              have H3 := Lib.hid (vals3At_is g xs k)
              have c0 := HB.out.c0
              have c1 := HB.out.c1
              clear hown hbx
              by_cases hlt : k < g.as.length
              · have hlt2 : (k : Int) < (g.as.length : Int) := by omega
                obtain ⟨⟨p1, p2⟩, hpk⟩ : ∃ q, g.as[k]? = some q := ⟨_, List.getElem?_eq_getElem hlt⟩
                obtain ⟨b', o', rfl, _, q1, q2⟩ := (HB.out.prs HP.out) k _ hpk
                obtain ⟨r1, r2, r3, r4, r5, r6⟩ := gate_lits HR.out hpk
                simp only at r1 r2 r3 r4 r5 r6
                have HPK := Lib.hid hpk
                clear hpk
                have V1 : Hid (p1 / 2 < ((vals3At g xs k).length : Int)) := by show p1 / 2 < _; rw [HVL.out]; omega
                have V2 : Hid (p2 / 2 < ((vals3At g xs k).length : Int)) := by show p2 / 2 < _; rw [HVL.out]; omega
                have HT1 := Lib.hid (fun w : World => fun h => rthree_any (vals3At g xs k) p1 A' c' w r1 V1.out (by omega) h H3.out)
                have HT2 := Lib.hid (fun w : World => fun h => rthree_any (vals3At g xs k) p2 A' c' w r3 V2.out (by omega) h H3.out)
                have HI1 := Lib.hid (bit3_is H3.out p1)
                have HI2 := Lib.hid (bit3_is H3.out p2)
                have HS : Hid (vals3At g xs (k + 1) = vals3At g xs k ++ [gate3 (bit3 (vals3At g xs k) p1) (bit3 (vals3At g xs k) p2)]) := vals3At_succ HPK.out
                generalize bit3 (vals3At g xs k) p1 = y1 at HT1 HI1 HS
                generalize bit3 (vals3At g xs k) p2 = y2 at HT2 HI2 HS
                have hs := HB.out.size
                go_wp2_with fail
                refine wp_region_noPanic ?_
                refine wp_region_seq (fun W => W.cell? ⟨w.heap.size, 1, none⟩ = some (.slice (some ⟨b', o', none⟩) g.as.length c) ∧ W.cell? ⟨b', o' + k * 2, none⟩ = some (.int .i64 p1) ∧ W.cell? ⟨b', o' + k * 2 + 1, none⟩ = some (.int .i64 p2)) [0, 1, 2, 3, 4, 5, 6, 8, 9, 10, 11, 12, 13, 14, 7, 15, 16, 17] [0, 1, 2, 3, 4, 5, 6, 8, 9, 10, 11, 12, 13, 14, 16, 17] [] (by kernel_rfl) (by kernel_rfl) rfl (by kernel_rfl) (by kernel_rfl) (fun _ _ _ _ _ h => h) ⟨c1, q1, q2⟩ (fun hSS => ?_)
                (refine wpSeq_mov rfl rfl ?_; intro o ho; simp only [List.getElem?_toArray, List.getElem?_cons_zero, List.getElem?_cons_succ, Option.some.injEq] at ho; subst ho; refine ⟨?_, Or.inl ⟨by rfl, fun W hSW => ?_⟩, ?_⟩; rotate_left; (focus (go_simp; first | done | with_reducible rfl)); try simp only [Act.put, List.setIfInBounds_toArray, List.set_cons_zero, List.set_cons_succ])
                (refine wpSeq_mov rfl rfl ?_; intro o ho; simp only [List.getElem?_toArray, List.getElem?_cons_zero, List.getElem?_cons_succ, Option.some.injEq] at ho; subst ho; refine ⟨?_, Or.inl ⟨by rfl, fun W hSW => ?_⟩, ?_⟩; rotate_left; (focus (go_simp; first | done | with_reducible rfl)); try simp only [Act.put, List.setIfInBounds_toArray, List.set_cons_zero, List.set_cons_succ])
                (refine wpSeq_mov rfl rfl ?_; intro o ho; simp only [List.getElem?_toArray, List.getElem?_cons_zero, List.getElem?_cons_succ, Option.some.injEq] at ho; subst ho; refine ⟨?_, Or.inl ⟨by rfl, fun W hSW => ?_⟩, ?_⟩; rotate_left; (focus (go_simp; first | done | with_reducible rfl)); try simp only [Act.put, List.setIfInBounds_toArray, List.set_cons_zero, List.set_cons_succ])
                (refine wpSeq_mov rfl rfl ?_; intro o ho; simp only [List.getElem?_toArray, List.getElem?_cons_zero, List.getElem?_cons_succ, Option.some.injEq] at ho; subst ho; refine ⟨?_, Or.inl ⟨by rfl, fun W hSW => ?_⟩, ?_⟩; rotate_left; (focus (go_simp; first | done | with_reducible rfl)); try simp only [Act.put, List.setIfInBounds_toArray, List.set_cons_zero, List.set_cons_succ])
                (refine wpSeq_mov rfl rfl ?_; intro o ho; simp only [List.getElem?_toArray, List.getElem?_cons_zero, List.getElem?_cons_succ, Option.some.injEq] at ho; subst ho; refine ⟨?_, Or.inl ⟨by rfl, fun W hSW => ?_⟩, ?_⟩; rotate_left; (focus (go_simp; first | done | with_reducible rfl)); try simp only [Act.put, List.setIfInBounds_toArray, List.set_cons_zero, List.set_cons_succ])
                (refine wpSeq_mov rfl rfl ?_; intro o ho; simp only [List.getElem?_toArray, List.getElem?_cons_zero, List.getElem?_cons_succ, Option.some.injEq] at ho; subst ho; refine ⟨?_, Or.inl ⟨by rfl, fun W hSW => ?_⟩, ?_⟩; rotate_left; (focus (go_simp; first | done | with_reducible rfl)); try simp only [Act.put, List.setIfInBounds_toArray, List.set_cons_zero, List.set_cons_succ])
                (refine wpSeq_mov rfl rfl ?_; intro o ho; simp only [List.getElem?_toArray, List.getElem?_cons_zero, List.getElem?_cons_succ, Option.some.injEq] at ho; subst ho; refine ⟨?_, Or.inl ⟨by rfl, fun W hSW => ?_⟩, ?_⟩; rotate_left; (focus (go_simp; first | done | with_reducible rfl)); try simp only [Act.put, List.setIfInBounds_toArray, List.set_cons_zero, List.set_cons_succ])
                (refine wpSeq_mov rfl rfl ?_; intro o ho; simp only [List.getElem?_toArray, List.getElem?_cons_zero, List.getElem?_cons_succ, Option.some.injEq] at ho; subst ho; refine ⟨?_, Or.inl ⟨by rfl, fun W hSW => ?_⟩, ?_⟩; rotate_left; (focus (go_simp; first | done | with_reducible rfl)); try simp only [Act.put, List.setIfInBounds_toArray, List.set_cons_zero, List.set_cons_succ])
                (refine wpSeq_mov rfl rfl ?_; intro o ho; simp only [List.getElem?_toArray, List.getElem?_cons_zero, List.getElem?_cons_succ, Option.some.injEq] at ho; subst ho; refine ⟨?_, Or.inl ⟨by rfl, fun W hSW => ?_⟩, ?_⟩; rotate_left; (focus (go_simp; first | done | with_reducible rfl)); try simp only [Act.put, List.setIfInBounds_toArray, List.set_cons_zero, List.set_cons_succ])
                (refine wpSeq_mov rfl rfl ?_; intro o ho; simp only [List.getElem?_toArray, List.getElem?_cons_zero, List.getElem?_cons_succ, Option.some.injEq] at ho; subst ho; refine ⟨?_, Or.inl ⟨by rfl, fun W hSW => ?_⟩, ?_⟩; rotate_left; (focus (go_simp; first | done | with_reducible rfl)); try simp only [Act.put, List.setIfInBounds_toArray, List.set_cons_zero, List.set_cons_succ])
                (refine wpSeq_mov rfl rfl ?_; intro o ho; simp only [List.getElem?_toArray, List.getElem?_cons_zero, List.getElem?_cons_succ, Option.some.injEq] at ho; subst ho; refine ⟨?_, Or.inl ⟨by rfl, fun W hSW => ?_⟩, ?_⟩; rotate_left; (focus (go_simp; first | done | with_reducible rfl)); try simp only [Act.put, List.setIfInBounds_toArray, List.set_cons_zero, List.set_cons_succ])
                (refine wpSeq_mov rfl rfl ?_; intro o ho; simp only [List.getElem?_toArray, List.getElem?_cons_zero, List.getElem?_cons_succ, Option.some.injEq] at ho; subst ho; refine ⟨?_, Or.inl ⟨by rfl, fun W hSW => ?_⟩, ?_⟩; rotate_left; (focus (go_simp; first | done | with_reducible rfl)); try simp only [Act.put, List.setIfInBounds_toArray, List.set_cons_zero, List.set_cons_succ])
                (refine wpSeq_mov rfl rfl ?_; intro o ho; simp only [List.getElem?_toArray, List.getElem?_cons_zero, List.getElem?_cons_succ, Option.some.injEq] at ho; subst ho; refine ⟨?_, Or.inl ⟨by rfl, fun W hSW => ?_⟩, ?_⟩; rotate_left; (focus (go_simp; first | done | with_reducible rfl)); try simp only [Act.put, List.setIfInBounds_toArray, List.set_cons_zero, List.set_cons_succ])
                (refine wpSeq_mov rfl rfl ?_; intro o ho; simp only [List.getElem?_toArray, List.getElem?_cons_zero, List.getElem?_cons_succ, Option.some.injEq] at ho; subst ho; refine ⟨?_, Or.inl ⟨by rfl, fun W hSW => ?_⟩, ?_⟩; rotate_left; (focus (go_simp; first | done | with_reducible rfl)); try simp only [Act.put, List.setIfInBounds_toArray, List.set_cons_zero, List.set_cons_succ])
                (refine wpSeq_fix rfl rfl ?_; intro o ho; simp only [List.getElem?_toArray, List.getElem?_cons_zero, List.getElem?_cons_succ, Option.some.injEq] at ho; subst ho; intro K hK)
                go_simp
                refine (HT1.out _ (Vals.of_own HO.out.p.drew)).mono ?_
                rintro e w' ⟨rfl, rfl⟩
                (refine hK.out _ _ (fun _ => hSS) ?_; clear hK K; try simp only [Act.put, List.setIfInBounds_toArray, List.set_cons_zero, List.set_cons_succ])
                (refine wpSeq_fix rfl rfl ?_; intro o ho; simp only [List.getElem?_toArray, List.getElem?_cons_zero, List.getElem?_cons_succ, Option.some.injEq] at ho; subst ho; intro K hK)
                go_simp
                refine (HT2.out _ (Vals.of_own HO.out.p.drew)).mono ?_
                rintro e w' ⟨rfl, rfl⟩
                (refine hK.out _ _ (fun _ => hSS) ?_; clear hK K; try simp only [Act.put, List.setIfInBounds_toArray, List.set_cons_zero, List.set_cons_succ])
                (refine wpSeq_mov rfl rfl ?_; intro o ho; simp only [List.getElem?_toArray, List.getElem?_cons_zero, List.getElem?_cons_succ, Option.some.injEq] at ho; subst ho; refine ⟨?_, Or.inl ⟨by rfl, fun W hSW => ?_⟩, ?_⟩; rotate_left; (focus (go_simp; first | done | with_reducible rfl)); try simp only [Act.put, List.setIfInBounds_toArray, List.set_cons_zero, List.set_cons_succ])
                (refine wpSeq_mov rfl rfl ?_; intro o ho; simp only [List.getElem?_toArray, List.getElem?_cons_zero, List.getElem?_cons_succ, Option.some.injEq] at ho; subst ho; refine ⟨?_, Or.inl ⟨by rfl, fun W hSW => ?_⟩, ?_⟩; rotate_left; (focus (go_simp; first | done | with_reducible rfl)); try simp only [Act.put, List.setIfInBounds_toArray, List.set_cons_zero, List.set_cons_succ])
                refine wpSeq_done ?_
                have hy1 := HI1.out
                have hy2 := HI2.out
                clear HI1 HI2
                rcases hy1 with rfl | rfl | rfl <;> rcases hy2 with rfl | rfl | rfl
                · go_wp2_with (first | (at_builtin; refine wpList_append_vals _ rfl (.tmp 83) (.tmp 84) _ rfl (w.heap.size + 1) 3 i0 _ 1 8 Try.underlying26 hi0 hz0 hz1 hz2 rfl (by omega) (.slice A' (vals3At g xs k).length c') (vals3At g xs k).length (i64s (vals3At g xs k)) rfl (HO.out.p.drew.alloc _) _ _ 1 1 [.int .i64 0] rfl rfl (vals_new wr.drew [.int .i64 0] 3) (i64s_one [0]) (by rw [HVL.out]; unfold maxLen; omega) (by rw [HVL.out]; omega) (by simp; omega) ?_; intro v5 w5 hown5 hg5; have HO5 := Lib.hid hown5; have HB5 := Lib.hid (((HB.out.step (stepD1 wr)).alloc (.cells #[.int .i64 0] 3)).grown hg5 (own_block HO.out.p)); clear hown5 hg5))
                  go_roundw
                  case rel =>
                    obtain ⟨A6, c6, hv6, _⟩ := own_form HO5.out
                    subst hv6
                    have hl6 : (vals3At g xs (k + 1)).length = (vals3At g xs k).length + 1 := by rw [HS.out]; simp
                    refine ⟨k + 1, A6, c6, by omega, by rw [hl6], by go_num, ⟨?_⟩, HB5.out⟩
                    rw [hl6, HS.out, i64s_snoc]
                    exact HO5.out
                  case measure => simp [intOf]; omega
                · go_wp2_with (first | (at_builtin; refine wpList_append_vals _ rfl (.tmp 83) (.tmp 84) _ rfl (w.heap.size + 1) 3 i0 _ 1 8 Try.underlying26 hi0 hz0 hz1 hz2 rfl (by omega) (.slice A' (vals3At g xs k).length c') (vals3At g xs k).length (i64s (vals3At g xs k)) rfl (HO.out.p.drew.alloc _) _ _ 1 1 [.int .i64 0] rfl rfl (vals_new wr.drew [.int .i64 0] 3) (i64s_one [0]) (by rw [HVL.out]; unfold maxLen; omega) (by rw [HVL.out]; omega) (by simp; omega) ?_; intro v5 w5 hown5 hg5; have HO5 := Lib.hid hown5; have HB5 := Lib.hid (((HB.out.step (stepD1 wr)).alloc (.cells #[.int .i64 0] 3)).grown hg5 (own_block HO.out.p)); clear hown5 hg5))
                  go_roundw
                  case rel =>
                    obtain ⟨A6, c6, hv6, _⟩ := own_form HO5.out
                    subst hv6
                    have hl6 : (vals3At g xs (k + 1)).length = (vals3At g xs k).length + 1 := by rw [HS.out]; simp
                    refine ⟨k + 1, A6, c6, by omega, by rw [hl6], by go_num, ⟨?_⟩, HB5.out⟩
                    rw [hl6, HS.out, i64s_snoc]
                    exact HO5.out
                  case measure => simp [intOf]; omega
                · go_wp2_with (first | (at_builtin; refine wpList_append_vals _ rfl (.tmp 83) (.tmp 84) _ rfl (w.heap.size + 1) 3 i0 _ 1 8 Try.underlying26 hi0 hz0 hz1 hz2 rfl (by omega) (.slice A' (vals3At g xs k).length c') (vals3At g xs k).length (i64s (vals3At g xs k)) rfl (HO.out.p.drew.alloc _) _ _ 1 1 [.int .i64 0] rfl rfl (vals_new wr.drew [.int .i64 0] 3) (i64s_one [0]) (by rw [HVL.out]; unfold maxLen; omega) (by rw [HVL.out]; omega) (by simp; omega) ?_; intro v5 w5 hown5 hg5; have HO5 := Lib.hid hown5; have HB5 := Lib.hid (((HB.out.step (stepD1 wr)).alloc (.cells #[.int .i64 0] 3)).grown hg5 (own_block HO.out.p)); clear hown5 hg5))
                  go_roundw
                  case rel =>
                    obtain ⟨A6, c6, hv6, _⟩ := own_form HO5.out
                    subst hv6
                    have hl6 : (vals3At g xs (k + 1)).length = (vals3At g xs k).length + 1 := by rw [HS.out]; simp
                    refine ⟨k + 1, A6, c6, by omega, by rw [hl6], by go_num, ⟨?_⟩, HB5.out⟩
                    rw [hl6, HS.out, i64s_snoc]
                    exact HO5.out
                  case measure => simp [intOf]; omega
                · go_wp2_with (first | (at_builtin; refine wpList_append_vals _ rfl (.tmp 83) (.tmp 84) _ rfl (w.heap.size + 1) 3 i0 _ 1 8 Try.underlying26 hi0 hz0 hz1 hz2 rfl (by omega) (.slice A' (vals3At g xs k).length c') (vals3At g xs k).length (i64s (vals3At g xs k)) rfl (HO.out.p.drew.alloc _) _ _ 1 1 [.int .i64 0] rfl rfl (vals_new wr.drew [.int .i64 0] 3) (i64s_one [0]) (by rw [HVL.out]; unfold maxLen; omega) (by rw [HVL.out]; omega) (by simp; omega) ?_; intro v5 w5 hown5 hg5; have HO5 := Lib.hid hown5; have HB5 := Lib.hid (((HB.out.step (stepD1 wr)).alloc (.cells #[.int .i64 0] 3)).grown hg5 (own_block HO.out.p)); clear hown5 hg5))
                  go_roundw
                  case rel =>
                    obtain ⟨A6, c6, hv6, _⟩ := own_form HO5.out
                    subst hv6
                    have hl6 : (vals3At g xs (k + 1)).length = (vals3At g xs k).length + 1 := by rw [HS.out]; simp
                    refine ⟨k + 1, A6, c6, by omega, by rw [hl6], by go_num, ⟨?_⟩, HB5.out⟩
                    rw [hl6, HS.out, i64s_snoc]
                    exact HO5.out
                  case measure => simp [intOf]; omega
                · go_wp2_with (first | (at_builtin; refine wpList_append_vals _ rfl (.tmp 93) (.tmp 94) _ rfl (w.heap.size + 1) 3 i0 _ 1 8 Try.underlying26 hi0 hz0 hz1 hz2 rfl (by omega) (.slice A' (vals3At g xs k).length c') (vals3At g xs k).length (i64s (vals3At g xs k)) rfl (HO.out.p.drew.alloc _) _ _ 1 1 [.int .i64 1] rfl rfl (vals_new wr.drew [.int .i64 1] 3) (i64s_one [1]) (by rw [HVL.out]; unfold maxLen; omega) (by rw [HVL.out]; omega) (by simp; omega) ?_; intro v5 w5 hown5 hg5; have HO5 := Lib.hid hown5; have HB5 := Lib.hid (((HB.out.step (stepD1 wr)).alloc (.cells #[.int .i64 1] 3)).grown hg5 (own_block HO.out.p)); clear hown5 hg5))
                  go_roundw
                  case rel =>
                    obtain ⟨A6, c6, hv6, _⟩ := own_form HO5.out
                    subst hv6
                    have hl6 : (vals3At g xs (k + 1)).length = (vals3At g xs k).length + 1 := by rw [HS.out]; simp
                    refine ⟨k + 1, A6, c6, by omega, by rw [hl6], by go_num, ⟨?_⟩, HB5.out⟩
                    rw [hl6, HS.out, i64s_snoc]
                    exact HO5.out
                  case measure => simp [intOf]; omega
                · go_wp2_with (first | (at_builtin; refine wpList_append_vals _ rfl (.tmp 73) (.tmp 74) _ rfl (w.heap.size + 1) 3 i0 _ 1 8 Try.underlying26 hi0 hz0 hz1 hz2 rfl (by omega) (.slice A' (vals3At g xs k).length c') (vals3At g xs k).length (i64s (vals3At g xs k)) rfl (HO.out.p.drew.alloc _) _ _ 1 1 [.int .i64 2] rfl rfl (vals_new wr.drew [.int .i64 2] 3) (i64s_one [2]) (by rw [HVL.out]; unfold maxLen; omega) (by rw [HVL.out]; omega) (by simp; omega) ?_; intro v5 w5 hown5 hg5; have HO5 := Lib.hid hown5; have HB5 := Lib.hid (((HB.out.step (stepD1 wr)).alloc (.cells #[.int .i64 2] 3)).grown hg5 (own_block HO.out.p)); clear hown5 hg5))
                  go_roundw
                  case rel =>
                    obtain ⟨A6, c6, hv6, _⟩ := own_form HO5.out
                    subst hv6
                    have hl6 : (vals3At g xs (k + 1)).length = (vals3At g xs k).length + 1 := by rw [HS.out]; simp
                    refine ⟨k + 1, A6, c6, by omega, by rw [hl6], by go_num, ⟨?_⟩, HB5.out⟩
                    rw [hl6, HS.out, i64s_snoc]
                    exact HO5.out
                  case measure => simp [intOf]; omega
                · go_wp2_with (first | (at_builtin; refine wpList_append_vals _ rfl (.tmp 83) (.tmp 84) _ rfl (w.heap.size + 1) 3 i0 _ 1 8 Try.underlying26 hi0 hz0 hz1 hz2 rfl (by omega) (.slice A' (vals3At g xs k).length c') (vals3At g xs k).length (i64s (vals3At g xs k)) rfl (HO.out.p.drew.alloc _) _ _ 1 1 [.int .i64 0] rfl rfl (vals_new wr.drew [.int .i64 0] 3) (i64s_one [0]) (by rw [HVL.out]; unfold maxLen; omega) (by rw [HVL.out]; omega) (by simp; omega) ?_; intro v5 w5 hown5 hg5; have HO5 := Lib.hid hown5; have HB5 := Lib.hid (((HB.out.step (stepD1 wr)).alloc (.cells #[.int .i64 0] 3)).grown hg5 (own_block HO.out.p)); clear hown5 hg5))
                  go_roundw
                  case rel =>
                    obtain ⟨A6, c6, hv6, _⟩ := own_form HO5.out
                    subst hv6
                    have hl6 : (vals3At g xs (k + 1)).length = (vals3At g xs k).length + 1 := by rw [HS.out]; simp
                    refine ⟨k + 1, A6, c6, by omega, by rw [hl6], by go_num, ⟨?_⟩, HB5.out⟩
                    rw [hl6, HS.out, i64s_snoc]
                    exact HO5.out
                  case measure => simp [intOf]; omega
                · go_wp2_with (first | (at_builtin; refine wpList_append_vals _ rfl (.tmp 73) (.tmp 74) _ rfl (w.heap.size + 1) 3 i0 _ 1 8 Try.underlying26 hi0 hz0 hz1 hz2 rfl (by omega) (.slice A' (vals3At g xs k).length c') (vals3At g xs k).length (i64s (vals3At g xs k)) rfl (HO.out.p.drew.alloc _) _ _ 1 1 [.int .i64 2] rfl rfl (vals_new wr.drew [.int .i64 2] 3) (i64s_one [2]) (by rw [HVL.out]; unfold maxLen; omega) (by rw [HVL.out]; omega) (by simp; omega) ?_; intro v5 w5 hown5 hg5; have HO5 := Lib.hid hown5; have HB5 := Lib.hid (((HB.out.step (stepD1 wr)).alloc (.cells #[.int .i64 2] 3)).grown hg5 (own_block HO.out.p)); clear hown5 hg5))
                  go_roundw
                  case rel =>
                    obtain ⟨A6, c6, hv6, _⟩ := own_form HO5.out
                    subst hv6
                    have hl6 : (vals3At g xs (k + 1)).length = (vals3At g xs k).length + 1 := by rw [HS.out]; simp
                    refine ⟨k + 1, A6, c6, by omega, by rw [hl6], by go_num, ⟨?_⟩, HB5.out⟩
                    rw [hl6, HS.out, i64s_snoc]
                    exact HO5.out
                  case measure => simp [intOf]; omega
                · go_wp2_with (first | (at_builtin; refine wpList_append_vals _ rfl (.tmp 73) (.tmp 74) _ rfl (w.heap.size + 1) 3 i0 _ 1 8 Try.underlying26 hi0 hz0 hz1 hz2 rfl (by omega) (.slice A' (vals3At g xs k).length c') (vals3At g xs k).length (i64s (vals3At g xs k)) rfl (HO.out.p.drew.alloc _) _ _ 1 1 [.int .i64 2] rfl rfl (vals_new wr.drew [.int .i64 2] 3) (i64s_one [2]) (by rw [HVL.out]; unfold maxLen; omega) (by rw [HVL.out]; omega) (by simp; omega) ?_; intro v5 w5 hown5 hg5; have HO5 := Lib.hid hown5; have HB5 := Lib.hid (((HB.out.step (stepD1 wr)).alloc (.cells #[.int .i64 2] 3)).grown hg5 (own_block HO.out.p)); clear hown5 hg5))
                  go_roundw
                  case rel =>
                    obtain ⟨A6, c6, hv6, _⟩ := own_form HO5.out
                    subst hv6
                    have hl6 : (vals3At g xs (k + 1)).length = (vals3At g xs k).length + 1 := by rw [HS.out]; simp
                    refine ⟨k + 1, A6, c6, by omega, by rw [hl6], by go_num, ⟨?_⟩, HB5.out⟩
                    rw [hl6, HS.out, i64s_snoc]
                    exact HO5.out
                  case measure => simp [intOf]; omega
              · have hlt2 : ¬ ((k : Int) < (g.as.length : Int)) := by omega
                obtain rfl : k = g.as.length := by omega
                go_wp2_with fail
                refine (rthree_any (vals3At g xs g.as.length) l A' c' _ HL.out.1 HL.out.2.1 (by omega) (Vals.of_own HO.out.p) H3.out).mono ?_
                rintro e w' ⟨rfl, rfl⟩
                go_wp2_with fail
                go_ret
                exact Ret.mk (by rw [HE.out]; first | done | rfl) HB.out.low
    · have HE : Hid (threeG g l xs = 2) := by show threeG g l xs = 2; unfold threeG; rw [hr, decide_eq_false hn]; rfl
      have hn' : ¬ ((xs.length : Int) = g.n) := hn
      clear hr
      go_wp2_with fail
      go_ret
      exact Ret.mk (by rw [HE.out]; first | done | rfl) HB.out.low
end Go.Proofs.Ytbdhkagcbncefaa
