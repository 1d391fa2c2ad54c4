/- EvalThree's walk. -/
import Derived.Test.YtbdhkagcbncefaaLaw2
import Derived.Test.YtbdhkagcbncefaaPLaw2
set_option linter.unusedVariables false
set_option linter.unusedSimpArgs false
namespace Go.Proofs.Ytbdhkagcbncefaa
open Go.RowKit Go.Maps

set_option maxRecDepth 100000 in
set_option maxHeartbeats 4000000 in
theorem evalThree_any (n : Int) (xs : List Int) (A : Option Addr) (cp : Nat) (i t : Int) (w : World) (hn : 0 ≤ n ∧ n ≤ 255) (hx : U16 xs) (hcp : xs.length ≤ cp) (hcl : cp ≤ 70368744177664) (hp : Vals w w.heap.size A (u16s xs)) (hi : 0 ≤ i ∧ i ≤ 255) (ht : 0 ≤ t ∧ t ≤ 255) :
    Calls Try.prog 5 #[.int .u8 n, .slice A xs.length cp, .int .u8 i, .int .u8 t] w (Ret w (.bool true)) := by
  have hnot := @not_run Try.prog
  have HM := Lib.hid (fun (w1 : World) (h : Below w.heap.size w w1) => made_any (n % 7) xs A cp w1 (by omega) (by omega) hx (by omega) (hp.after h))
  have HI := Lib.hid (madeG_inv (n := n % 7) (by omega) (by omega) xs)
  generalize madeG (n % 7) xs = s at HM HI
  have n0 : 0 ≤ s.1.n := by rw [HI.out.n]; omega
  have n1 : s.1.n ≤ 6 := by rw [HI.out.n]; omega
  have l1 : s.1.as.length ≤ 40 := HI.out.len
  obtain ⟨N, hN⟩ : ∃ N : Nat, s.1.n = (N : Int) := ⟨s.1.n.toNat, by omega⟩
  have HN := Lib.hid hN
  have hN6 : N ≤ 6 := by omega
  have hll := lit_lt HI.out.lit
  have hl1 : s.2 ≤ 9223372036854775807 := by unfold Gr.vars at hll; omega
  clear hN hll
  go_enter Try.func5, Try.ntmps5
  go_wp2_with fail
  refine (awake2_any _).mono ?_
  rintro e w0 ⟨rfl, hb⟩
  have HL := Lib.hid ((Low.refl w).step hb)
  clear hb
  go_wp2_with fail
  refine (HM.out w0 HL.out.b).mono ?_
  rintro e w1 ⟨B, d, rfl, hc1, hp1, hb⟩
  replace HL := Lib.hid (HL.out.step hb)
  replace HL := Lib.hid (HL.out.step (stepA w1 (.cells #[.int .i64 s.1.n, .slice B s.1.as.length d] 24)))
  have HG := Lib.hid (GBox.new hc1 hp1)
  clear hb hp1 hc1 HM
  have c0 := HG.out.c0
  have c1 := HG.out.c1
  go_wp2_with fail
  have HBT : Hid (∀ W : World, Calls Try.prog 36 #[.int .i64 i, .int .i64 s.1.n] W (RetB W (bitsG i N))) := fun W => by rw [HN.out]; exact bits_any i N W (by omega) (by omega) (by omega)
  have HXx : Hid ((bitsG i N).length = N) := bitsG_length _ _
  generalize bitsG i N = x at HBT HXx
  refine (HBT.out _).mono ?_
  rintro e w2 ⟨X, kx, rfl, hkx, hv, hb⟩
  replace HL := Lib.hid (HL.out.step hb); replace HG := Lib.hid (HG.out.step hb)
  have HVx : Hid (ValsF w2 X (bools x)) := ⟨hv⟩
  clear hb hv HBT
  rw [HXx.out]
  replace c0 := HG.out.c0
  replace c1 := HG.out.c1
  go_wp2_with fail
  have HBT : Hid (∀ W : World, Calls Try.prog 36 #[.int .i64 t, .int .i64 s.1.n] W (RetB W (bitsG t N))) := fun W => by rw [HN.out]; exact bits_any t N W (by omega) (by omega) (by omega)
  have HXf : Hid ((bitsG t N).length = N) := bitsG_length _ _
  generalize bitsG t N = f at HBT HXf
  refine (HBT.out _).mono ?_
  rintro e w3 ⟨F, kf, rfl, hkf, hv, hb⟩
  replace HL := Lib.hid (HL.out.step hb); replace HG := Lib.hid (HG.out.step hb); replace HVx := Lib.hid (HVx.out.step hb)
  have HVf : Hid (ValsF w3 F (bools f)) := ⟨hv⟩
  clear hb hv HBT
  rw [HXf.out]
  replace c0 := HG.out.c0
  replace c1 := HG.out.c1
  go_wp2_with fail
  clear c0 c1
  obtain ⟨i0, hi0, hz0, hz1, hz2⟩ := info_parts intInfo
  go_loopw [14, 15, 16] (fun y z i wr => ∃ (k : Nat) (Y : Option Addr) (cy : Nat) (Z : Option Addr) (cz : Nat), k ≤ N ∧ y = .slice Y k cy ∧ z = .slice Z k cz ∧ i = .int .i64 k ∧ OwnF wr w3.heap.size 3 1 (.slice Y k cy) k (i64s (freed ((x.take k).map zT) (f.take k))) ∧ OwnF wr w3.heap.size 3 1 (.slice Z k cz) k (i64s ((x.take k).map zT)) ∧ Apart (.slice Y k cy) (.slice Z k cz) ∧ Low w3 wr) (fun _ _ i _ => N - (intOf i).toNat)
  case atStart => exact ⟨0, none, 0, none, 0, Nat.zero_le _, rfl, rfl, rfl, ⟨World.ownsRow_nil _ _ _ _⟩, ⟨World.ownsRow_nil _ _ _ _⟩, Apart.nil_, Low.refl _⟩
  case round =>
    obtain ⟨k, Y, cy, Z, cz, hk, rfl, rfl, rfl, hoy, hoz, hap, hlow⟩ := hrel
    have HOY := Lib.hid hoy
    have HOZ := Lib.hid hoz
    have HAP := Lib.hid hap
    have HW := Lib.hid hlow
    clear hoy hoz hap hlow
    have HGk := Lib.hid (HG.out.step HW.out.b)
    have c0 := HGk.out.c0
    have c1 := HGk.out.c1
    have hs := HW.out.size
    by_cases hlt : k < N
    · have hlt' : (k : Int) < s.1.n := by rw [HN.out]; omega
      have hltN : (k : Int) < (N : Int) := by omega
      obtain ⟨bx, hbx⟩ : ∃ q, x[k]? = some q := ⟨_, List.getElem?_eq_getElem (by rw [HXx.out]; exact hlt)⟩
      obtain ⟨bf, hbf⟩ : ∃ q, f[k]? = some q := ⟨_, List.getElem?_eq_getElem (by rw [HXf.out]; exact hlt)⟩
      obtain ⟨b1, o1, rfl, hb1, hq1⟩ := HVx.out.p k _ (bools_get hbx)
      obtain ⟨b2, o2, rfl, hb2, hq2⟩ := HVf.out.p k _ (bools_get hbf)
      have q1 : wr.cell? ⟨b1, o1 + k, none⟩ = some (.bool bx) := ((bcell HW.out.b).1 _ _ hb1).trans hq1
      have HQ2 : Hid (∀ W : World, Low w3 W → W.cell? ⟨b2, o2 + k, none⟩ = some (.bool bf)) := fun W h => ((bcell h.b).1 _ _ hb2).trans hq2
      have HSZ : Hid (i64s ((x.take (k + 1)).map zT) = i64s ((x.take k).map zT) ++ [.int .i64 (zT bx)]) := by
        show i64s ((x.take (k + 1)).map zT) = _
        rw [List.take_add_one, hbx, Option.toList_some, List.map_append, i64s_append]
        rfl
      have HSY : Hid (i64s (freed ((x.take (k + 1)).map zT) (f.take (k + 1))) = i64s (freed ((x.take k).map zT) (f.take k)) ++ [.int .i64 (orFree (zT bx) bf)]) := by
        show i64s (freed ((x.take (k + 1)).map zT) (f.take (k + 1))) = _
        rw [List.take_add_one, List.take_add_one, hbx, hbf, Option.toList_some, Option.toList_some, List.map_append, List.map_singleton, freed_snoc (by rw [List.length_map, List.length_take, List.length_take, HXx.out, HXf.out]), i64s_snoc]
      clear hbx hbf hq1 hq2
      cases bx <;> cases bf
      · go_wp2_with (first
          | (at_builtin; refine wpList_append_own_at (o := ⟨some 55, _, _, _, _, _⟩) _ rfl (.tmp 52) (.tmp 54) _ rfl w3.heap.size 3 i0 _ 1 8 Try.underlying26 hi0 hz0 hz1 hz2 rfl (by omega) (.slice Z k cz) k (i64s ((x.take k).map zT)) rfl (HOZ.out.p.alloc _) _ 1 1 [.int .i64 0] rfl rfl (cells_new wr [.int .i64 0] 3) (i64s_one [0]) (by unfold maxLen; omega) (by omega) (by simp; omega) ?_; intro v5 w5 hown5 hg5 _ hat5; obtain ⟨hoy5, hap5⟩ := own_beside (HOY.out.p.alloc _) HAP.out.symm hg5 hat5; obtain ⟨Z5, cz5, rfl, hcz5⟩ := own_form hown5; have HOZ5 := Lib.hid hown5; have HOY5 := Lib.hid hoy5; have HAP5 := Lib.hid hap5; have HW5 := Lib.hid ((HW.out.step (stepA wr (.cells #[.int .i64 0] 3))).grown hg5 (own_block HOZ.out.p)); have hs5 := HW5.out.size; have q2 := HQ2.out _ HW5.out; clear hown5 hg5 hat5 hoy5 hap5 hcz5)
          | (at_builtin; refine wpList_append_own_at (o := ⟨some 63, _, _, _, _, _⟩) _ rfl (.tmp 60) (.tmp 62) _ rfl w3.heap.size 3 i0 _ 1 8 Try.underlying26 hi0 hz0 hz1 hz2 rfl (by omega) (.slice Y k cy) k (i64s (freed ((x.take k).map zT) (f.take k))) rfl (HOY5.out.alloc _) _ 1 1 [.int .i64 0] rfl rfl (cells_new w5 [.int .i64 0] 3) (i64s_one [0]) (by unfold maxLen; omega) (by omega) (by simp; omega) ?_; intro v6 w6 hown6 hg6 _ hat6; obtain ⟨hoz6, hap6⟩ := own_beside (HOZ5.out.alloc _) HAP5.out.symm hg6 hat6; obtain ⟨Y6, cy6, rfl, hcy6⟩ := own_form hown6; have HOY6 := Lib.hid hown6; have HOZ6 := Lib.hid hoz6; have HAP6 := Lib.hid hap6; have HW6 := Lib.hid ((HW5.out.step (stepA w5 (.cells #[.int .i64 0] 3))).grown hg6 (own_block HOY5.out)); clear hown6 hg6 hat6 hoz6 hap6 hcy6))
        go_roundw
        case rel =>
          refine ⟨k + 1, Y6, cy6, Z5, cz5, by omega, rfl, rfl, by go_num, ⟨?_⟩, ⟨?_⟩, HAP6.out, HW6.out⟩
          · rw [HSY.out]
            exact HOY6.out
          · rw [HSZ.out]
            exact HOZ6.out
        case measure => simp [intOf]; omega
      · go_wp2_with (first
          | (at_builtin; refine wpList_append_own_at (o := ⟨some 55, _, _, _, _, _⟩) _ rfl (.tmp 52) (.tmp 54) _ rfl w3.heap.size 3 i0 _ 1 8 Try.underlying26 hi0 hz0 hz1 hz2 rfl (by omega) (.slice Z k cz) k (i64s ((x.take k).map zT)) rfl (HOZ.out.p.alloc _) _ 1 1 [.int .i64 0] rfl rfl (cells_new wr [.int .i64 0] 3) (i64s_one [0]) (by unfold maxLen; omega) (by omega) (by simp; omega) ?_; intro v5 w5 hown5 hg5 _ hat5; obtain ⟨hoy5, hap5⟩ := own_beside (HOY.out.p.alloc _) HAP.out.symm hg5 hat5; obtain ⟨Z5, cz5, rfl, hcz5⟩ := own_form hown5; have HOZ5 := Lib.hid hown5; have HOY5 := Lib.hid hoy5; have HAP5 := Lib.hid hap5; have HW5 := Lib.hid ((HW.out.step (stepA wr (.cells #[.int .i64 0] 3))).grown hg5 (own_block HOZ.out.p)); have hs5 := HW5.out.size; have q2 := HQ2.out _ HW5.out; clear hown5 hg5 hat5 hoy5 hap5 hcz5)
          | (at_builtin; refine wpList_append_own_at (o := ⟨some 63, _, _, _, _, _⟩) _ rfl (.tmp 60) (.tmp 62) _ rfl w3.heap.size 3 i0 _ 1 8 Try.underlying26 hi0 hz0 hz1 hz2 rfl (by omega) (.slice Y k cy) k (i64s (freed ((x.take k).map zT) (f.take k))) rfl (HOY5.out.alloc _) _ 1 1 [.int .i64 2] rfl rfl (cells_new w5 [.int .i64 2] 3) (i64s_one [2]) (by unfold maxLen; omega) (by omega) (by simp; omega) ?_; intro v6 w6 hown6 hg6 _ hat6; obtain ⟨hoz6, hap6⟩ := own_beside (HOZ5.out.alloc _) HAP5.out.symm hg6 hat6; obtain ⟨Y6, cy6, rfl, hcy6⟩ := own_form hown6; have HOY6 := Lib.hid hown6; have HOZ6 := Lib.hid hoz6; have HAP6 := Lib.hid hap6; have HW6 := Lib.hid ((HW5.out.step (stepA w5 (.cells #[.int .i64 2] 3))).grown hg6 (own_block HOY5.out)); clear hown6 hg6 hat6 hoz6 hap6 hcy6))
        go_roundw
        case rel =>
          refine ⟨k + 1, Y6, cy6, Z5, cz5, by omega, rfl, rfl, by go_num, ⟨?_⟩, ⟨?_⟩, HAP6.out, HW6.out⟩
          · rw [HSY.out]
            exact HOY6.out
          · rw [HSZ.out]
            exact HOZ6.out
        case measure => simp [intOf]; omega
      · go_wp2_with (first
          | (at_builtin; refine wpList_append_own_at (o := ⟨some 55, _, _, _, _, _⟩) _ rfl (.tmp 52) (.tmp 54) _ rfl w3.heap.size 3 i0 _ 1 8 Try.underlying26 hi0 hz0 hz1 hz2 rfl (by omega) (.slice Z k cz) k (i64s ((x.take k).map zT)) rfl (HOZ.out.p.alloc _) _ 1 1 [.int .i64 1] rfl rfl (cells_new wr [.int .i64 1] 3) (i64s_one [1]) (by unfold maxLen; omega) (by omega) (by simp; omega) ?_; intro v5 w5 hown5 hg5 _ hat5; obtain ⟨hoy5, hap5⟩ := own_beside (HOY.out.p.alloc _) HAP.out.symm hg5 hat5; obtain ⟨Z5, cz5, rfl, hcz5⟩ := own_form hown5; have HOZ5 := Lib.hid hown5; have HOY5 := Lib.hid hoy5; have HAP5 := Lib.hid hap5; have HW5 := Lib.hid ((HW.out.step (stepA wr (.cells #[.int .i64 1] 3))).grown hg5 (own_block HOZ.out.p)); have hs5 := HW5.out.size; have q2 := HQ2.out _ HW5.out; clear hown5 hg5 hat5 hoy5 hap5 hcz5)
          | (at_builtin; refine wpList_append_own_at (o := ⟨some 63, _, _, _, _, _⟩) _ rfl (.tmp 60) (.tmp 62) _ rfl w3.heap.size 3 i0 _ 1 8 Try.underlying26 hi0 hz0 hz1 hz2 rfl (by omega) (.slice Y k cy) k (i64s (freed ((x.take k).map zT) (f.take k))) rfl (HOY5.out.alloc _) _ 1 1 [.int .i64 1] rfl rfl (cells_new w5 [.int .i64 1] 3) (i64s_one [1]) (by unfold maxLen; omega) (by omega) (by simp; omega) ?_; intro v6 w6 hown6 hg6 _ hat6; obtain ⟨hoz6, hap6⟩ := own_beside (HOZ5.out.alloc _) HAP5.out.symm hg6 hat6; obtain ⟨Y6, cy6, rfl, hcy6⟩ := own_form hown6; have HOY6 := Lib.hid hown6; have HOZ6 := Lib.hid hoz6; have HAP6 := Lib.hid hap6; have HW6 := Lib.hid ((HW5.out.step (stepA w5 (.cells #[.int .i64 1] 3))).grown hg6 (own_block HOY5.out)); clear hown6 hg6 hat6 hoz6 hap6 hcy6))
        go_roundw
        case rel =>
          refine ⟨k + 1, Y6, cy6, Z5, cz5, by omega, rfl, rfl, by go_num, ⟨?_⟩, ⟨?_⟩, HAP6.out, HW6.out⟩
          · rw [HSY.out]
            exact HOY6.out
          · rw [HSZ.out]
            exact HOZ6.out
        case measure => simp [intOf]; omega
      · go_wp2_with (first
          | (at_builtin; refine wpList_append_own_at (o := ⟨some 55, _, _, _, _, _⟩) _ rfl (.tmp 52) (.tmp 54) _ rfl w3.heap.size 3 i0 _ 1 8 Try.underlying26 hi0 hz0 hz1 hz2 rfl (by omega) (.slice Z k cz) k (i64s ((x.take k).map zT)) rfl (HOZ.out.p.alloc _) _ 1 1 [.int .i64 1] rfl rfl (cells_new wr [.int .i64 1] 3) (i64s_one [1]) (by unfold maxLen; omega) (by omega) (by simp; omega) ?_; intro v5 w5 hown5 hg5 _ hat5; obtain ⟨hoy5, hap5⟩ := own_beside (HOY.out.p.alloc _) HAP.out.symm hg5 hat5; obtain ⟨Z5, cz5, rfl, hcz5⟩ := own_form hown5; have HOZ5 := Lib.hid hown5; have HOY5 := Lib.hid hoy5; have HAP5 := Lib.hid hap5; have HW5 := Lib.hid ((HW.out.step (stepA wr (.cells #[.int .i64 1] 3))).grown hg5 (own_block HOZ.out.p)); have hs5 := HW5.out.size; have q2 := HQ2.out _ HW5.out; clear hown5 hg5 hat5 hoy5 hap5 hcz5)
          | (at_builtin; refine wpList_append_own_at (o := ⟨some 63, _, _, _, _, _⟩) _ rfl (.tmp 60) (.tmp 62) _ rfl w3.heap.size 3 i0 _ 1 8 Try.underlying26 hi0 hz0 hz1 hz2 rfl (by omega) (.slice Y k cy) k (i64s (freed ((x.take k).map zT) (f.take k))) rfl (HOY5.out.alloc _) _ 1 1 [.int .i64 2] rfl rfl (cells_new w5 [.int .i64 2] 3) (i64s_one [2]) (by unfold maxLen; omega) (by omega) (by simp; omega) ?_; intro v6 w6 hown6 hg6 _ hat6; obtain ⟨hoz6, hap6⟩ := own_beside (HOZ5.out.alloc _) HAP5.out.symm hg6 hat6; obtain ⟨Y6, cy6, rfl, hcy6⟩ := own_form hown6; have HOY6 := Lib.hid hown6; have HOZ6 := Lib.hid hoz6; have HAP6 := Lib.hid hap6; have HW6 := Lib.hid ((HW5.out.step (stepA w5 (.cells #[.int .i64 2] 3))).grown hg6 (own_block HOY5.out)); clear hown6 hg6 hat6 hoz6 hap6 hcy6))
        go_roundw
        case rel =>
          refine ⟨k + 1, Y6, cy6, Z5, cz5, by omega, rfl, rfl, by go_num, ⟨?_⟩, ⟨?_⟩, HAP6.out, HW6.out⟩
          · rw [HSY.out]
            exact HOY6.out
          · rw [HSZ.out]
            exact HOZ6.out
        case measure => simp [intOf]; omega
    · obtain rfl : k = N := by omega
      have hlt' : ¬ ((k : Int) < s.1.n) := by rw [HN.out]; omega
      have hfl : (freed (x.map zT) f).length = k := by rw [freed_length _ _ (by rw [List.length_map, HXx.out, HXf.out]), List.length_map, HXx.out]
      have hzl : (x.map zT).length = k := by rw [List.length_map, HXx.out]
      have HVY : Hid (ValsF wr Y (i64s (freed (x.map zT) f))) := by
        have := Vals.of_own HOY.out.p
        rw [List.take_of_length_le (by rw [HXx.out]; exact Nat.le_refl _), List.take_of_length_le (by rw [HXf.out]; exact Nat.le_refl _)] at this
        exact ⟨this⟩
      have HVZ : Hid (ValsF wr Z (i64s (x.map zT))) := by
        have := Vals.of_own HOZ.out.p
        rw [List.take_of_length_le (by rw [HXx.out]; exact Nat.le_refl _)] at this
        exact ⟨this⟩
      have HVX := Lib.hid (HVx.out.step HW.out.b)
      have HCY : Hid (∀ W : World, Low wr W → Calls Try.prog 33 #[.agg #[.int .i64 s.1.n, .slice B s.1.as.length d], .int .i64 s.2, .slice Y k cy] W (Ret W (.int .i64 (threeG s.1 s.2 (freed (x.map zT) f))))) := fun W h => by
        have := eThree_any s.1 s.2 (freed (x.map zT) f) B Y d cy W HI.out.ok HGk.out.cap (HGk.out.step h.b).prs (by omega) (HVY.out.step h.b).p hl1
        rw [hfl] at this
        exact this
      have HCZ : Hid (∀ W : World, Low wr W → Calls Try.prog 33 #[.agg #[.int .i64 s.1.n, .slice B s.1.as.length d], .int .i64 s.2, .slice Z k cz] W (Ret W (.int .i64 (threeG s.1 s.2 (x.map zT))))) := fun W h => by
        have := eThree_any s.1 s.2 (x.map zT) B Z d cz W HI.out.ok HGk.out.cap (HGk.out.step h.b).prs (by omega) (HVZ.out.step h.b).p hl1
        rw [hzl] at this
        exact this
      have HCX : Hid (∀ W : World, Low wr W → Calls Try.prog 31 #[.agg #[.int .i64 s.1.n, .slice B s.1.as.length d], .int .i64 s.2, .slice X k kx] W (Ret W (.bool (evalG s.1 s.2 x)))) := fun W h => by
        have := eEval_any s.1 s.2 x B X d kx W HI.out.ok HGk.out.cap (HGk.out.step h.b).prs hkx (by rw [HXx.out]; omega) (HVX.out.step h.b).p hl1
        rw [HXx.out] at this
        exact this
      have hn' : (x.length : Int) = s.1.n := by rw [HXx.out, HN.out]
      have hta := threeG_tells HI.out.right hn' HI.out.lit (freed_tells x f (by rw [HXx.out, HXf.out]))
      have htz := threeG_exact HI.out.right hn' HI.out.lit
      rw [htz] at HCZ
      generalize evalG s.1 s.2 x = q at hta HCX HCZ
      generalize threeG s.1 s.2 (freed (x.map zT) f) = p at hta HCY
      have HTA := Lib.hid hta
      have HR := Lib.hid ((Low.refl wr).step (stepD1 wr))
      clear hta htz hn' hfl hzl
      go_wp2_with fail
      refine wp_region_noPanic ?_
      refine wp_region_seq (fun W => W.cell? ⟨w1.heap.size, 0, none⟩ = some (.int .i64 s.1.n) ∧ W.cell? ⟨w1.heap.size, 1, none⟩ = some (.slice B s.1.as.length d) ∧ Low wr W) [0, 1, 2, 4, 5, 6, 8, 9, 10, 3, 7, 11, 12, 13, 14] [0, 1, 2, 4, 5, 6, 8, 9, 10, 12, 13, 14] [] (by kernel_rfl) (by kernel_rfl) rfl (by kernel_rfl) (by kernel_rfl) (fun _ _ _ _ _ h => h) ?_ (fun hSS => ?_)
      · exact ⟨c0, c1, HR.out⟩
      clear c0 c1 hSS
      (refine wpSeq_mov rfl rfl ?_; intro o ho; simp only [List.getElem?_toArray, List.getElem?_cons_zero, List.getElem?_cons_succ, Option.some.injEq] at ho; subst ho; refine ⟨?_, Or.inl ⟨by rfl, fun W hSW => ?_⟩, ?_⟩; rotate_left; (focus (go_simp; first | done | with_reducible rfl)); try simp only [Act.put, List.setIfInBounds_toArray, List.set_cons_zero, List.set_cons_succ])
      (refine wpSeq_mov rfl rfl ?_; intro o ho; simp only [List.getElem?_toArray, List.getElem?_cons_zero, List.getElem?_cons_succ, Option.some.injEq] at ho; subst ho; refine ⟨?_, Or.inl ⟨by rfl, fun W hSW => ?_⟩, ?_⟩; rotate_left; (focus (go_simp; first | done | with_reducible rfl)); try simp only [Act.put, List.setIfInBounds_toArray, List.set_cons_zero, List.set_cons_succ])
      (refine wpSeq_mov rfl rfl ?_; intro o ho; simp only [List.getElem?_toArray, List.getElem?_cons_zero, List.getElem?_cons_succ, Option.some.injEq] at ho; subst ho; refine ⟨?_, Or.inl ⟨by rfl, fun W hSW => ?_⟩, ?_⟩; rotate_left; (focus (go_simp; first | done | with_reducible rfl)); try simp only [Act.put, List.setIfInBounds_toArray, List.set_cons_zero, List.set_cons_succ])
      (refine wpSeq_mov rfl rfl ?_; intro o ho; simp only [List.getElem?_toArray, List.getElem?_cons_zero, List.getElem?_cons_succ, Option.some.injEq] at ho; subst ho; refine ⟨?_, Or.inl ⟨by rfl, fun W hSW => ?_⟩, ?_⟩; rotate_left; (focus (go_simp; first | done | with_reducible rfl)); try simp only [Act.put, List.setIfInBounds_toArray, List.set_cons_zero, List.set_cons_succ])
      (refine wpSeq_mov rfl rfl ?_; intro o ho; simp only [List.getElem?_toArray, List.getElem?_cons_zero, List.getElem?_cons_succ, Option.some.injEq] at ho; subst ho; refine ⟨?_, Or.inl ⟨by rfl, fun W hSW => ?_⟩, ?_⟩; rotate_left; (focus (go_simp; first | done | with_reducible rfl)); try simp only [Act.put, List.setIfInBounds_toArray, List.set_cons_zero, List.set_cons_succ])
      (refine wpSeq_mov rfl rfl ?_; intro o ho; simp only [List.getElem?_toArray, List.getElem?_cons_zero, List.getElem?_cons_succ, Option.some.injEq] at ho; subst ho; refine ⟨?_, Or.inl ⟨by rfl, fun W hSW => ?_⟩, ?_⟩; rotate_left; (focus (go_simp; first | done | with_reducible rfl)); try simp only [Act.put, List.setIfInBounds_toArray, List.set_cons_zero, List.set_cons_succ])
      (refine wpSeq_mov rfl rfl ?_; intro o ho; simp only [List.getElem?_toArray, List.getElem?_cons_zero, List.getElem?_cons_succ, Option.some.injEq] at ho; subst ho; refine ⟨?_, Or.inl ⟨by rfl, fun W hSW => ?_⟩, ?_⟩; rotate_left; (focus (go_simp; first | done | with_reducible rfl)); try simp only [Act.put, List.setIfInBounds_toArray, List.set_cons_zero, List.set_cons_succ])
      (refine wpSeq_mov rfl rfl ?_; intro o ho; simp only [List.getElem?_toArray, List.getElem?_cons_zero, List.getElem?_cons_succ, Option.some.injEq] at ho; subst ho; refine ⟨?_, Or.inl ⟨by rfl, fun W hSW => ?_⟩, ?_⟩; rotate_left; (focus (go_simp; first | done | with_reducible rfl)); try simp only [Act.put, List.setIfInBounds_toArray, List.set_cons_zero, List.set_cons_succ])
      (refine wpSeq_mov rfl rfl ?_; intro o ho; simp only [List.getElem?_toArray, List.getElem?_cons_zero, List.getElem?_cons_succ, Option.some.injEq] at ho; subst ho; refine ⟨?_, Or.inl ⟨by rfl, fun W hSW => ?_⟩, ?_⟩; rotate_left; (focus (go_simp; first | done | with_reducible rfl)); try simp only [Act.put, List.setIfInBounds_toArray, List.set_cons_zero, List.set_cons_succ])
      (refine wpSeq_fix rfl rfl ?_; intro o ho; simp only [List.getElem?_toArray, List.getElem?_cons_zero, List.getElem?_cons_succ, Option.some.injEq] at ho; subst ho; intro K hK)
      go_simp
      refine (HCY.out _ HR.out).mono ?_
      rintro e w7 ⟨rfl, hb⟩
      replace HR := Lib.hid (HR.out.step hb)
      clear hb
      (refine hK.out _ _ (fun _ => ⟨(HGk.out.step HR.out.b).c0, (HGk.out.step HR.out.b).c1, HR.out⟩) ?_; clear hK K; try simp only [Act.put, List.setIfInBounds_toArray, List.set_cons_zero, List.set_cons_succ])
      (refine wpSeq_fix rfl rfl ?_; intro o ho; simp only [List.getElem?_toArray, List.getElem?_cons_zero, List.getElem?_cons_succ, Option.some.injEq] at ho; subst ho; intro K hK)
      go_simp
      refine (HCZ.out _ HR.out).mono ?_
      rintro e w8 ⟨rfl, hb⟩
      replace HR := Lib.hid (HR.out.step hb)
      clear hb
      (refine hK.out _ _ (fun _ => ⟨(HGk.out.step HR.out.b).c0, (HGk.out.step HR.out.b).c1, HR.out⟩) ?_; clear hK K; try simp only [Act.put, List.setIfInBounds_toArray, List.set_cons_zero, List.set_cons_succ])
      (refine wpSeq_fix rfl rfl ?_; intro o ho; simp only [List.getElem?_toArray, List.getElem?_cons_zero, List.getElem?_cons_succ, Option.some.injEq] at ho; subst ho; intro K hK)
      go_simp
      refine (HCX.out _ HR.out).mono ?_
      rintro e w9 ⟨rfl, hb⟩
      replace HR := Lib.hid (HR.out.step hb)
      clear hb
      (refine hK.out _ _ (fun _ => ⟨(HGk.out.step HR.out.b).c0, (HGk.out.step HR.out.b).c1, HR.out⟩) ?_; clear hK K; try simp only [Act.put, List.setIfInBounds_toArray, List.set_cons_zero, List.set_cons_succ])
      (refine wpSeq_mov rfl rfl ?_; intro o ho; simp only [List.getElem?_toArray, List.getElem?_cons_zero, List.getElem?_cons_succ, Option.some.injEq] at ho; subst ho; refine ⟨?_, Or.inl ⟨by rfl, fun W hSW => ?_⟩, ?_⟩; rotate_left; (focus (go_simp; first | done | with_reducible rfl)); try simp only [Act.put, List.setIfInBounds_toArray, List.set_cons_zero, List.set_cons_succ])
      (refine wpSeq_mov rfl rfl ?_; intro o ho; simp only [List.getElem?_toArray, List.getElem?_cons_zero, List.getElem?_cons_succ, Option.some.injEq] at ho; subst ho; refine ⟨?_, Or.inl ⟨by rfl, fun W hSW => ?_⟩, ?_⟩; rotate_left; (focus (go_simp; first | done | with_reducible rfl)); try simp only [Act.put, List.setIfInBounds_toArray, List.set_cons_zero, List.set_cons_succ])
      (refine wpSeq_mov rfl rfl ?_; intro o ho; simp only [List.getElem?_toArray, List.getElem?_cons_zero, List.getElem?_cons_succ, Option.some.injEq] at ho; subst ho; refine ⟨?_, Or.inl ⟨by rfl, fun W hSW => ?_⟩, ?_⟩; rotate_left; (focus (go_simp; first | done | with_reducible rfl)); try simp only [Act.put, List.setIfInBounds_toArray, List.set_cons_zero, List.set_cons_succ])
      refine wpSeq_done ?_
      have HF := Lib.hid ((HL.out.step HW.out.b).step HR.out.b)
      have hta := HTA.out
      clear HTA
      cases q <;> rcases hta with rfl | rfl
      all_goals simp only [zT, if_true, if_false, Bool.false_eq_true]
      all_goals go_wp2_with fail
      all_goals go_ret
      all_goals exact ⟨rfl, HF.out.b⟩
end Go.Proofs.Ytbdhkagcbncefaa
