/- ConeCopy's walk. -/
import Derived.Test.YtbdhkagcbncefaaG6
import Derived.Test.YtbdhkagcbncefaaG5
import Derived.Test.YtbdhkagcbncefaaPBy
set_option linter.unusedVariables false
set_option linter.unusedSimpArgs false
namespace Go.Proofs.Ytbdhkagcbncefaa
open Go.RowKit Go.Maps

set_option maxRecDepth 100000 in
set_option maxHeartbeats 4000000 in
theorem coneCopy_any (n : Int) (xs : List Int) (A : Option Addr) (cp : Nat) (m : Int) (ks : List Int) (A2 : Option Addr) (cp2 : Nat) (bs : List Int) (A3 : Option Addr) (c3 : Nat) (a : Int) (w : World) (hn : 0 ≤ n ∧ n ≤ 255) (hx : U16 xs) (hcp : xs.length ≤ cp) (hcl : cp ≤ 70368744177664) (hp : Vals w w.heap.size A (u16s xs)) (hm : 0 ≤ m ∧ m ≤ 255) (hks : U16 ks) (hcp2 : ks.length ≤ cp2) (hcl2 : cp2 ≤ 70368744177664) (hp2 : Vals w w.heap.size A2 (u16s ks)) (hbs : ∀ b ∈ bs, 0 ≤ b ∧ b ≤ 255) (hcb : bs.length ≤ c3) (hcbl : c3 ≤ 140737488355328) (hbv : Vals w w.heap.size A3 (bs.map (.int .u8 ·))) (ha : 0 ≤ a ∧ a ≤ 255) :
    Calls Try.prog 23 #[.int .u8 n, .slice A xs.length cp, .int .u8 m, .slice A2 ks.length cp2, .slice A3 bs.length c3, .int .u8 a] w (Ret w (.bool true)) := by
  have hnot := @not_run Try.prog
  have HM := Lib.hid (fun (w1 : World) (h : Below w.heap.size w w1) => made_any (n % 7) xs A cp w1 (by omega) (by omega) hx (by omega) (hp.after h))
  have HI := Lib.hid (madeG_inv (n := n % 7) (by omega) (by omega) xs)
  generalize madeG (n % 7) xs = s at HM HI
  have n0 : 0 ≤ s.1.n := by rw [HI.out.n]; omega
  have n1 : s.1.n ≤ 6 := by rw [HI.out.n]; omega
  have l1 : s.1.as.length ≤ 40 := HI.out.len
  obtain ⟨N, hN⟩ : ∃ N : Nat, s.1.n = (N : Int) := ⟨s.1.n.toNat, by omega⟩
  have HN := Lib.hid hN
  have hN6 : N ≤ 6 := by omega
  have hll := lit_lt HI.out.lit
  have hl1 : s.2 ≤ 9223372036854775807 := by unfold Gr.vars at hll; omega
  clear hN hll
  have HM2 := Lib.hid (fun (w1 : World) (h : Below w.heap.size w w1) => made_any (m % 7) ks A2 cp2 w1 (by omega) (by omega) hks (by omega) (hp2.after h))
  have HT := Lib.hid (madeG_inv (n := m % 7) (by omega) (by omega) ks)
  generalize madeG (m % 7) ks = t at HM2 HT
  have tn0 : 0 ≤ t.1.n := by rw [HT.out.n]; omega
  have tn1 : t.1.n ≤ 6 := by rw [HT.out.n]; omega
  have tl1 : t.1.as.length ≤ 40 := HT.out.len
  obtain ⟨NT, hNT⟩ : ∃ NT : Nat, t.1.n = (NT : Int) := ⟨t.1.n.toNat, by omega⟩
  have HNT := Lib.hid hNT
  have hNT6 : NT ≤ 6 := by omega
  have hmz : (2 * (t.1.n + 1 + (t.1.as.length : Int)) == 0) = false := by simp; omega
  have hM0 : 0 < 2 * (t.1.n + 1 + (t.1.as.length : Int)) := by omega
  have HBV := Lib.hid hbv
  have HBS := Lib.hid hbs
  clear hNT
  have HBL := Lib.hid (byL_lit HT.out.right hbs N)
  have hok : copyOk t.1 s.1 s.2 (byL bs (2 * (t.1.n + 1 + (t.1.as.length : Int))) N) = true := copyOk_iff.2 ⟨HT.out.right, HI.out.right, HI.out.lit, by rw [byL_length]; exact HN.out.symm, HBL.out⟩
  have hce := copyG_room hok (by unfold Gr.vars; omega)
  have hcg := copyG_grows hce
  have hcs : ∀ v : List Bool, v.length = NT → evalG (copyG t.1 s.1 s.2 (byL bs (2 * (t.1.n + 1 + (t.1.as.length : Int))) N)).1 (copyG t.1 s.1 s.2 (byL bs (2 * (t.1.n + 1 + (t.1.as.length : Int))) N)).2.1 v = evalG s.1 s.2 ((byL bs (2 * (t.1.n + 1 + (t.1.as.length : Int))) N).map (fun x => evalG t.1 x v)) := fun v hv => by
    have hvn : (v.length : Int) = t.1.n := by rw [hv, HNT.out]
    have h1 := copyG_sem hvn hce
    have h2 : (byL bs (2 * (t.1.n + 1 + (t.1.as.length : Int))) N).map (fun x => evalG t.1 x v) = byVals t.1 v (byL bs (2 * (t.1.n + 1 + (t.1.as.length : Int))) N) := by
      unfold byVals
      exact List.map_congr_left fun x hx => evalG_is HT.out.right hvn (HBL.out x hx)
    rw [h2, evalG_is hcg.right (hcg.len hvn) hcg.lit, evalG_is HI.out.right (by unfold byVals; rw [List.length_map, byL_length, HN.out]) HI.out.lit, h1]
  have HCS := Lib.hid hcs
  have r0 := litB_ge hcg.lit
  have r1 : (copyG t.1 s.1 s.2 (byL bs (2 * (t.1.n + 1 + (t.1.as.length : Int))) N)).2.1 ≤ 9223372036854775807 := by have := lit_lt hcg.lit; have := right_vars hcg.right; omega
  have hbm : ∀ x ∈ byL bs (2 * (t.1.n + 1 + (t.1.as.length : Int))) N, x ≤ 9223372036854775807 := fun x hx => by have := lit_lt (HBL.out x hx); unfold Gr.vars at this; omega
  have HC := Lib.hid (fun (B1 B2 I : Option Addr) (d1 d2 ci : Nat) (W : World) (h1 : t.1.as.length ≤ d1) (h2 : Prs W W.heap.size B1 t.1.as) (h3 : Prs W W.heap.size B2 s.1.as) (h4 : Vals W W.heap.size I (i64s (byL bs (2 * (t.1.n + 1 + (t.1.as.length : Int))) N))) => ccopy_any t.1 s.1 s.2 (byL bs (2 * (t.1.n + 1 + (t.1.as.length : Int))) N) B1 B2 I d1 d2 ci W HT.out.ok HI.out.ok hl1 h1 h2 h3 hbm (by rw [byL_length]; omega) h4)
  rw [byL_length] at HC
  have hce' : ((copyG t.1 s.1 s.2 (byL bs (2 * (t.1.n + 1 + (t.1.as.length : Int))) N)).2.2 == 0) = true := by rw [hce]; rfl
  have HCR := Lib.hid hcg.right
  have HRR := Lib.hid (fun (B1 : Option Addr) (d1 : Nat) (W : World) (h2 : Prs W W.heap.size B1 _) => rright_any (copyG t.1 s.1 s.2 (byL bs (2 * (t.1.n + 1 + (t.1.as.length : Int))) N)).1 B1 d1 W (ok_of_right hcg.right) h2)
  rw [HCR.out] at HRR
  have HEH := Lib.hid (fun (us : List Bool) (hu : us.length = NT) (B I : Option Addr) (d ci : Nat) (W : World) (h1 : (copyG t.1 s.1 s.2 (byL bs (2 * (t.1.n + 1 + (t.1.as.length : Int))) N)).1.as.length ≤ d) (h2 : Prs W W.heap.size B (copyG t.1 s.1 s.2 (byL bs (2 * (t.1.n + 1 + (t.1.as.length : Int))) N)).1.as) (h3 : us.length ≤ ci) (h4 : Vals W W.heap.size I (bools us)) => reval_any (copyG t.1 s.1 s.2 (byL bs (2 * (t.1.n + 1 + (t.1.as.length : Int))) N)).1 (copyG t.1 s.1 s.2 (byL bs (2 * (t.1.n + 1 + (t.1.as.length : Int))) N)).2.1 us B I d ci W (ok_of_right hcg.right) h1 h2 h3 (by omega) h4 r1)
  have HEW := Lib.hid (fun (us : List Bool) (hu : us.length = N) (B I : Option Addr) (d ci : Nat) (W : World) (h1 : s.1.as.length ≤ d) (h2 : Prs W W.heap.size B s.1.as) (h3 : us.length ≤ ci) (h4 : Vals W W.heap.size I (bools us)) => reval_any s.1 s.2 us B I d ci W HI.out.ok h1 h2 h3 (by omega) h4 hl1)
  have HET := Lib.hid (fun (x : Int) (hx : litB t.1 x = true) (us : List Bool) (hu : us.length = NT) (B I : Option Addr) (d ci : Nat) (W : World) (h1 : t.1.as.length ≤ d) (h2 : Prs W W.heap.size B t.1.as) (h3 : us.length ≤ ci) (h4 : Vals W W.heap.size I (bools us)) => reval_any t.1 x us B I d ci W HT.out.ok h1 h2 h3 (by omega) h4 (by have := lit_lt hx; unfold Gr.vars at this; omega))
  generalize copyG t.1 s.1 s.2 (byL bs (2 * (t.1.n + 1 + (t.1.as.length : Int))) N) = r at HC HCS hce hce' r0 r1 HCR HRR HEH
  clear hx hp hks hp2 hbv hbs hok hcg hcs hce hbm
  go_enter Try.func23, Try.ntmps23
  go_wp2_with fail
  refine (awake3_any _).mono ?_
  rintro e w0 ⟨rfl, hb⟩
  have HL := Lib.hid ((Low.refl w).step hb)
  clear hb
  go_wp2_with fail
  refine (HM.out w0 HL.out.b).mono ?_
  rintro e w1 ⟨B, d, rfl, hc1, hp1, hb⟩
  replace HL := Lib.hid (HL.out.step hb)
  replace HL := Lib.hid (HL.out.step (stepA w1 (.cells #[.int .i64 s.1.n, .slice B s.1.as.length d] 24)))
  have HG := Lib.hid (GBox.new hc1 hp1)
  clear hb hp1 hc1 HM
  go_wp2_with fail
  refine (HM2.out _ HL.out.b).mono ?_
  rintro e w2 ⟨B2, d2, rfl, hc2, hp2, hb⟩
  replace HL := Lib.hid (HL.out.step hb); replace HG := Lib.hid (HG.out.step hb)
  replace HL := Lib.hid (HL.out.step (stepA w2 (.cells #[.int .i64 t.1.n, .slice B2 t.1.as.length d2] 24))); replace HG := Lib.hid (HG.out.step (stepA w2 (.cells #[.int .i64 t.1.n, .slice B2 t.1.as.length d2] 24)))
  have HQ := Lib.hid (GBox.new hc2 hp2)
  clear hb hp2 hc2 HM2
  have c0 := HQ.out.c0
  have c1 := HQ.out.c1
  have HBT : Hid (∀ W : World, Calls Try.prog 36 #[.int .i64 a, .int .i64 t.1.n] W (RetB W (bitsG a NT))) := fun W => by rw [HNT.out]; exact bits_any a NT W (by omega) (by omega) (by omega)
  have HXv : Hid ((bitsG a NT).length = NT) := bitsG_length _ _
  generalize bitsG a NT = v at HBT HXv
  go_wp2_with fail
  refine (HBT.out _).mono ?_
  rintro e w3 ⟨A4, c4, rfl, hc4, hv, hb⟩
  replace HL := Lib.hid (HL.out.step hb); replace HG := Lib.hid (HG.out.step hb); replace HQ := Lib.hid (HQ.out.step hb)
  have HV : Hid (ValsF w3 A4 (bools v)) := ⟨hv⟩
  rw [HXv.out] at hc4 ⊢
  have HBU : Hid (ValsF w3 A3 (bs.map (.int .u8 ·))) := ⟨HBV.out.after HL.out.b⟩
  have HETV := Lib.hid (fun (x : Int) (hx : litB t.1 x = true) => HET.out x hx v HXv.out)
  rw [HXv.out] at HETV
  clear hb hv HBT c0 c1 HBV
  obtain ⟨i0, hi0, hz0, hz1, hz2⟩ := info_parts intInfo
  obtain ⟨k0, hk0, hy0, hy1, hy2⟩ := info_parts boolInfo
  go_wp2_with fail
  go_loopw [19, 20, 21] (fun b' w' i wr => ∃ (k : Nat) (I : Option Addr) (ci : Nat) (J : Option Addr) (cj : Nat), k ≤ N ∧ b' = .slice I k ci ∧ w' = .slice J k cj ∧ i = .int .i64 k ∧ OwnF wr w3.heap.size 3 1 (.slice I k ci) k (i64s (byL bs (2 * (t.1.n + 1 + (t.1.as.length : Int))) k)) ∧ OwnF wr w3.heap.size 4 1 (.slice J k cj) k (bools ((byL bs (2 * (t.1.n + 1 + (t.1.as.length : Int))) k).map (fun x => evalG t.1 x v))) ∧ Apart (.slice I k ci) (.slice J k cj) ∧ Low w3 wr) (fun _ _ i _ => N - (intOf i).toNat)
  case atStart => exact ⟨0, none, 0, none, 0, Nat.zero_le _, rfl, rfl, rfl, ⟨World.ownsRow_nil _ _ _ _⟩, ⟨World.ownsRow_nil _ _ _ _⟩, Apart.nil_, Low.refl _⟩
  case round =>
    obtain ⟨k, I, ci, J, cj, hk, rfl, rfl, rfl, hoi, hoj, hap, hlow⟩ := hrel
    have HOI := Lib.hid hoi
    have HOJ := Lib.hid hoj
    have HAP := Lib.hid hap
    have HW := Lib.hid hlow
    have e0 := (HG.out.step hlow.b).c0
    have e1 := (HG.out.step hlow.b).c1
    have c0 := (HQ.out.step hlow.b).c0
    have c1 := (HQ.out.step hlow.b).c1
    clear hoi hoj hap hlow
    by_cases hlt : k < N
    · have hlt' : (k : Int) < s.1.n := by have := HN.out; omega
      obtain ⟨X, hX⟩ : ∃ X, byAt bs (2 * (t.1.n + 1 + (t.1.as.length : Int))) k = X := ⟨_, rfl⟩
      have HXL : Hid (litB t.1 X = true) := by show litB t.1 X = true; rw [← hX]; exact byAt_lit HT.out.right HBS.out k
      have HBX := Lib.hid hX
      have HSN := Lib.hid (byL_succ bs (2 * (t.1.n + 1 + (t.1.as.length : Int))) k)
      by_cases hkb : k < bs.length
      · have hkb' : (k : Int) < (bs.length : Int) := by omega
        obtain ⟨y, hy⟩ : ∃ y, bs[k]? = some y := ⟨_, List.getElem?_eq_getElem hkb⟩
        obtain ⟨b3, o3, rfl, _, qb⟩ := (HBU.out.step HW.out.b).p k (.int .u8 y) (by rw [List.getElem?_map, hy]; rfl)
        obtain ⟨y1, y2⟩ := HBS.out y (List.mem_of_getElem? hy)
        have hX' : y % (2 * (t.1.n + 1 + (t.1.as.length : Int))) = X := by rw [← hX]; unfold byAt; rw [hy]; rfl
        clear hX hy hkb
        go_wp2_with fail
        refine (rvars_any _ _ _ _ _ tn0 (by omega) (by omega)).mono ?_
        rintro e w5 ⟨rfl, hb⟩
        replace HW := Lib.hid (HW.out.step hb)
        replace HOI := Lib.hid (HOI.out.step hb)
        replace HOJ := Lib.hid (HOJ.out.step hb)
        have hs5 := HW.out.size
        clear hb c0 c1 qb
        go_wp2_with ((at_builtin; go_loud (refine wpList_append_own_at (o := ⟨some 74, _, _, _, _, _⟩) _ rfl (.tmp 71) (.tmp 73) _ rfl w3.heap.size 3 i0 _ 1 8 Try.underlying26 hi0 hz0 hz1 hz2 rfl (by omega) (.slice I k ci) k (i64s (byL bs (2 * (t.1.n + 1 + (t.1.as.length : Int))) k)) rfl (HOI.out.p.alloc _) _ 1 1 [.int .i64 X] rfl rfl (cells_new w5 [.int .i64 X] 3) (i64s_one [X]) (by unfold maxLen; omega) (by omega) (by simp; omega) ?_); intro v6 w6 hown6 hg6 _ hat6; go_loud (obtain ⟨hoj6, hap6⟩ := own_beside (HOJ.out.p.alloc _) HAP.out hg6 hat6); go_loud (obtain ⟨I6, c6, hv6, hc6⟩ := own_form hown6); go_loud (rw [hv6] at hown6 hap6 ⊢); go_loud (have HOI6 := Lib.hid hown6); have HOJ6 := Lib.hid hoj6; have HAP6 := Lib.hid hap6; go_loud (have HW6 := Lib.hid ((HW.out.step (stepA w5 (.cells #[.int .i64 X] 3))).grown hg6 (own_block HOI.out.p))); clear hown6 hg6 hat6 hoj6 hap6 hv6; go_loud (have c0 := (HQ.out.step HW6.out.b).c0); go_loud (have c1 := (HQ.out.step HW6.out.b).c1)))
        refine (HETV.out X HXL.out B2 A4 d2 c4 _ HQ.out.cap (HQ.out.step HW6.out.b).prs hc4 (HV.out.step HW6.out.b).p).mono ?_
        rintro e w7 ⟨rfl, hb⟩
        replace HW6 := Lib.hid (HW6.out.step hb)
        replace HOI6 := Lib.hid (own_below HOI6.out hb)
        replace HOJ6 := Lib.hid (own_below HOJ6.out hb)
        have hs7 := HW6.out.size
        clear hb c0 c1
        obtain ⟨ev, hev⟩ : ∃ ev, evalG t.1 X v = ev := ⟨_, rfl⟩
        have HEVX := Lib.hid hev
        rw [hev]
        clear hev
        go_wp2_with ((at_builtin; go_loud (refine wpList_append_own_at (o := ⟨some 81, _, _, _, _, _⟩) _ rfl (.tmp 75) (.tmp 80) _ rfl w3.heap.size 4 k0 _ 1 1 Try.underlying25 hk0 hy0 hy1 hy2 rfl (by omega) (.slice J k cj) k (bools ((byL bs (2 * (t.1.n + 1 + (t.1.as.length : Int))) k).map (fun x => evalG t.1 x v))) rfl (HOJ6.out.alloc _) _ 1 1 [.bool ev] rfl rfl (cells_new w7 [.bool ev] 4) (bools_one [ev]) (by unfold maxLen; omega) (by omega) (by simp; omega) ?_); intro v8 w8 hown8 hg8 _ hat8; go_loud (obtain ⟨hoi8, hap8⟩ := own_beside (HOI6.out.alloc _) HAP6.out.symm hg8 hat8); go_loud (obtain ⟨J8, c8, hv8, hc8⟩ := own_form hown8); go_loud (rw [hv8] at hown8 hap8 ⊢); have HOJ8 := Lib.hid hown8; have HOI8 := Lib.hid hoi8; have HAP8 := Lib.hid hap8; go_loud (have HW8 := Lib.hid ((HW6.out.step (stepA w7 (.cells #[.bool ev] 4))).grown hg8 (own_block HOJ6.out))); clear hown8 hg8 hat8 hoi8 hap8 hv8))
        go_roundw
        case rel => exact ⟨k + 1, I6, c6, J8, c8, by omega, rfl, rfl, by go_num, ⟨by rw [HSN.out, i64s_append, HBX.out]; exact HOI8.out⟩, ⟨by rw [HSN.out, List.map_append, bools_append, List.map_singleton, HBX.out, HEVX.out]; exact HOJ8.out⟩, HAP8.out.symm, HW8.out⟩
        case measure => simp [intOf]; omega
      · have hkb' : ¬ ((k : Int) < (bs.length : Int)) := by omega
        have hX' : (k : Int) % (2 * (t.1.n + 1 + (t.1.as.length : Int))) = X := by rw [← hX]; unfold byAt; rw [List.getElem?_eq_none (by omega)]; rfl
        have qb : True := trivial
        clear hX hkb
        go_wp2_with fail
        refine (rvars_any _ _ _ _ _ tn0 (by omega) (by omega)).mono ?_
        rintro e w5 ⟨rfl, hb⟩
        replace HW := Lib.hid (HW.out.step hb)
        replace HOI := Lib.hid (HOI.out.step hb)
        replace HOJ := Lib.hid (HOJ.out.step hb)
        have hs5 := HW.out.size
        clear hb c0 c1 qb
        go_wp2_with ((at_builtin; go_loud (refine wpList_append_own_at (o := ⟨some 74, _, _, _, _, _⟩) _ rfl (.tmp 71) (.tmp 73) _ rfl w3.heap.size 3 i0 _ 1 8 Try.underlying26 hi0 hz0 hz1 hz2 rfl (by omega) (.slice I k ci) k (i64s (byL bs (2 * (t.1.n + 1 + (t.1.as.length : Int))) k)) rfl (HOI.out.p.alloc _) _ 1 1 [.int .i64 X] rfl rfl (cells_new w5 [.int .i64 X] 3) (i64s_one [X]) (by unfold maxLen; omega) (by omega) (by simp; omega) ?_); intro v6 w6 hown6 hg6 _ hat6; go_loud (obtain ⟨hoj6, hap6⟩ := own_beside (HOJ.out.p.alloc _) HAP.out hg6 hat6); go_loud (obtain ⟨I6, c6, hv6, hc6⟩ := own_form hown6); go_loud (rw [hv6] at hown6 hap6 ⊢); go_loud (have HOI6 := Lib.hid hown6); have HOJ6 := Lib.hid hoj6; have HAP6 := Lib.hid hap6; go_loud (have HW6 := Lib.hid ((HW.out.step (stepA w5 (.cells #[.int .i64 X] 3))).grown hg6 (own_block HOI.out.p))); clear hown6 hg6 hat6 hoj6 hap6 hv6; go_loud (have c0 := (HQ.out.step HW6.out.b).c0); go_loud (have c1 := (HQ.out.step HW6.out.b).c1)))
        refine (HETV.out X HXL.out B2 A4 d2 c4 _ HQ.out.cap (HQ.out.step HW6.out.b).prs hc4 (HV.out.step HW6.out.b).p).mono ?_
        rintro e w7 ⟨rfl, hb⟩
        replace HW6 := Lib.hid (HW6.out.step hb)
        replace HOI6 := Lib.hid (own_below HOI6.out hb)
        replace HOJ6 := Lib.hid (own_below HOJ6.out hb)
        have hs7 := HW6.out.size
        clear hb c0 c1
        obtain ⟨ev, hev⟩ : ∃ ev, evalG t.1 X v = ev := ⟨_, rfl⟩
        have HEVX := Lib.hid hev
        rw [hev]
        clear hev
        go_wp2_with ((at_builtin; go_loud (refine wpList_append_own_at (o := ⟨some 81, _, _, _, _, _⟩) _ rfl (.tmp 75) (.tmp 80) _ rfl w3.heap.size 4 k0 _ 1 1 Try.underlying25 hk0 hy0 hy1 hy2 rfl (by omega) (.slice J k cj) k (bools ((byL bs (2 * (t.1.n + 1 + (t.1.as.length : Int))) k).map (fun x => evalG t.1 x v))) rfl (HOJ6.out.alloc _) _ 1 1 [.bool ev] rfl rfl (cells_new w7 [.bool ev] 4) (bools_one [ev]) (by unfold maxLen; omega) (by omega) (by simp; omega) ?_); intro v8 w8 hown8 hg8 _ hat8; go_loud (obtain ⟨hoi8, hap8⟩ := own_beside (HOI6.out.alloc _) HAP6.out.symm hg8 hat8); go_loud (obtain ⟨J8, c8, hv8, hc8⟩ := own_form hown8); go_loud (rw [hv8] at hown8 hap8 ⊢); have HOJ8 := Lib.hid hown8; have HOI8 := Lib.hid hoi8; have HAP8 := Lib.hid hap8; go_loud (have HW8 := Lib.hid ((HW6.out.step (stepA w7 (.cells #[.bool ev] 4))).grown hg8 (own_block HOJ6.out))); clear hown8 hg8 hat8 hoi8 hap8 hv8))
        go_roundw
        case rel => exact ⟨k + 1, I6, c6, J8, c8, by omega, rfl, rfl, by go_num, ⟨by rw [HSN.out, i64s_append, HBX.out]; exact HOI8.out⟩, ⟨by rw [HSN.out, List.map_append, bools_append, List.map_singleton, HBX.out, HEVX.out]; exact HOJ8.out⟩, HAP8.out.symm, HW8.out⟩
        case measure => simp [intOf]; omega
    · have hkN : k = N := by omega
      have hlt' : ¬ ((k : Int) < s.1.n) := by have := HN.out; omega
      have HVB := Lib.hid (Vals.of_own HOI.out.p)
      have HVW : Hid (ValsF wr J (bools ((byL bs (2 * (t.1.n + 1 + (t.1.as.length : Int))) k).map (fun x => evalG t.1 x v)))) := ⟨Vals.of_own HOJ.out.p⟩
      have hcj : k ≤ cj := own_cap HOJ.out.p
      rw [← hkN] at HC HCS HEW
      have HGk := Lib.hid (HG.out.step HW.out.b)
      have HQk := Lib.hid (HQ.out.step HW.out.b)
      have HVk := Lib.hid (HV.out.step HW.out.b)
      have HLk := Lib.hid (HL.out.step HW.out.b)
      have HCC := Lib.hid (HC.out B2 B I d2 d ci _ HQk.out.cap HQk.out.prs HGk.out.prs HVB.out)
      have HWL : Hid (((byL bs (2 * (t.1.n + 1 + (t.1.as.length : Int))) k).map (fun x => evalG t.1 x v)).length = k) := by show _ = _; rw [List.length_map, byL_length]
      have HEQ := Lib.hid (HCS.out v HXv.out)
      have HE1 := Lib.hid (HEH.out v HXv.out)
      have HE2 := Lib.hid (HEW.out _ HWL.out)
      rw [HWL.out, ← HEQ.out] at HE2
      rw [HXv.out] at HE1
      generalize (byL bs (2 * (t.1.n + 1 + (t.1.as.length : Int))) k).map (fun x => evalG t.1 x v) = us at HVW HE2
      clear hkN HOI HOJ HAP HVB HC HCS HEQ
      go_wp2_with fail
      refine HCC.out.mono ?_
      rintro e w5 ⟨B5, d5, rfl, hc5, hp5, hb⟩
      replace HLk := Lib.hid (HLk.out.step hb); replace HGk := Lib.hid (HGk.out.step hb); replace HVk := Lib.hid (HVk.out.step hb); replace HVW := Lib.hid (HVW.out.step hb)
      replace HLk := Lib.hid (HLk.out.step (stepA w5 (.cells #[.int .i64 r.1.n, .slice B5 r.1.as.length d5] 24))); replace HGk := Lib.hid (HGk.out.step (stepA w5 (.cells #[.int .i64 r.1.n, .slice B5 r.1.as.length d5] 24))); replace HVk := Lib.hid (HVk.out.step (stepA w5 (.cells #[.int .i64 r.1.n, .slice B5 r.1.as.length d5] 24))); replace HVW := Lib.hid (HVW.out.step (stepA w5 (.cells #[.int .i64 r.1.n, .slice B5 r.1.as.length d5] 24)))
      have HH := Lib.hid (GBox.new hc5 hp5)
      clear hb hp5 c0 c1 e0 e1 HQk HCC
      go_wp2_with fail
      replace HLk := Lib.hid (HLk.out.step (stepD1 _)); replace HGk := Lib.hid (HGk.out.step (stepD1 _)); replace HVk := Lib.hid (HVk.out.step (stepD1 _)); replace HVW := Lib.hid (HVW.out.step (stepD1 _)); replace HH := Lib.hid (HH.out.step (stepD1 _))
      refine wp_region_noPanic ?_
      refine wp_region_seq (fun W => W.cell? ⟨w5.heap.size, 0, none⟩ = some (.int .i64 r.1.n) ∧ W.cell? ⟨w5.heap.size, 1, none⟩ = some (.slice B5 r.1.as.length d5) ∧ W.cell? ⟨w1.heap.size, 0, none⟩ = some (.int .i64 s.1.n) ∧ W.cell? ⟨w1.heap.size, 1, none⟩ = some (.slice B s.1.as.length d)) [0, 1, 2, 3, 4, 5, 6, 7, 8, 9, 10, 11, 12, 14, 15, 16, 13, 17, 18, 19, 20] [0, 1, 2, 3, 4, 5, 6, 8, 9, 10, 11, 12, 14, 15, 16, 18, 19, 20] [] (by kernel_rfl) (by kernel_rfl) rfl (by kernel_rfl) (by kernel_rfl) (fun _ _ _ _ _ h => h) ?_ (fun hSS => ?_)
      · exact ⟨(HH.out).c0, (HH.out).c1, HGk.out.c0, HGk.out.c1⟩
      clear hSS
      (refine wpSeq_mov rfl rfl ?_; intro o ho; simp only [List.getElem?_toArray, List.getElem?_cons_zero, List.getElem?_cons_succ, Option.some.injEq] at ho; subst ho; refine ⟨?_, Or.inl ⟨by rfl, fun W hSW => ?_⟩, ?_⟩; rotate_left; (focus (go_simp; first | done | with_reducible rfl)); try simp only [Act.put, List.setIfInBounds_toArray, List.set_cons_zero, List.set_cons_succ])
      (refine wpSeq_mov rfl rfl ?_; intro o ho; simp only [List.getElem?_toArray, List.getElem?_cons_zero, List.getElem?_cons_succ, Option.some.injEq] at ho; subst ho; refine ⟨?_, Or.inl ⟨by rfl, fun W hSW => ?_⟩, ?_⟩; rotate_left; (focus (go_simp; first | done | with_reducible rfl)); try simp only [Act.put, List.setIfInBounds_toArray, List.set_cons_zero, List.set_cons_succ])
      (refine wpSeq_mov rfl rfl ?_; intro o ho; simp only [List.getElem?_toArray, List.getElem?_cons_zero, List.getElem?_cons_succ, Option.some.injEq] at ho; subst ho; refine ⟨?_, Or.inl ⟨by rfl, fun W hSW => ?_⟩, ?_⟩; rotate_left; (focus (go_simp; first | done | with_reducible rfl)); try simp only [Act.put, List.setIfInBounds_toArray, List.set_cons_zero, List.set_cons_succ])
      (refine wpSeq_mov rfl rfl ?_; intro o ho; simp only [List.getElem?_toArray, List.getElem?_cons_zero, List.getElem?_cons_succ, Option.some.injEq] at ho; subst ho; refine ⟨?_, Or.inl ⟨by rfl, fun W hSW => ?_⟩, ?_⟩; rotate_left; (focus (go_simp; first | done | with_reducible rfl)); try simp only [Act.put, List.setIfInBounds_toArray, List.set_cons_zero, List.set_cons_succ])
      (refine wpSeq_mov rfl rfl ?_; intro o ho; simp only [List.getElem?_toArray, List.getElem?_cons_zero, List.getElem?_cons_succ, Option.some.injEq] at ho; subst ho; refine ⟨?_, Or.inl ⟨by rfl, fun W hSW => ?_⟩, ?_⟩; rotate_left; (focus (go_simp; first | done | with_reducible rfl)); try simp only [Act.put, List.setIfInBounds_toArray, List.set_cons_zero, List.set_cons_succ])
      (refine wpSeq_mov rfl rfl ?_; intro o ho; simp only [List.getElem?_toArray, List.getElem?_cons_zero, List.getElem?_cons_succ, Option.some.injEq] at ho; subst ho; refine ⟨?_, Or.inl ⟨by rfl, fun W hSW => ?_⟩, ?_⟩; rotate_left; (focus (go_simp; first | done | with_reducible rfl)); try simp only [Act.put, List.setIfInBounds_toArray, List.set_cons_zero, List.set_cons_succ])
      (refine wpSeq_mov rfl rfl ?_; intro o ho; simp only [List.getElem?_toArray, List.getElem?_cons_zero, List.getElem?_cons_succ, Option.some.injEq] at ho; subst ho; refine ⟨?_, Or.inl ⟨by rfl, fun W hSW => ?_⟩, ?_⟩; rotate_left; (focus (go_simp; first | done | with_reducible rfl)); try simp only [Act.put, List.setIfInBounds_toArray, List.set_cons_zero, List.set_cons_succ])
      (refine wpSeq_fix rfl rfl ?_; intro o ho; simp only [List.getElem?_toArray, List.getElem?_cons_zero, List.getElem?_cons_succ, Option.some.injEq] at ho; subst ho; intro K hK)
      go_simp
      refine (HRR.out B5 d5 _ HH.out.prs).mono ?_
      rintro e w6 ⟨rfl, hb⟩
      replace HLk := Lib.hid (HLk.out.step hb); replace HGk := Lib.hid (HGk.out.step hb); replace HVk := Lib.hid (HVk.out.step hb); replace HVW := Lib.hid (HVW.out.step hb); replace HH := Lib.hid (HH.out.step hb)
      clear hb
      (refine hK.out _ _ (fun _ => ⟨(HH.out).c0, (HH.out).c1, HGk.out.c0, HGk.out.c1⟩) ?_; clear hK K; try simp only [Act.put, List.setIfInBounds_toArray, List.set_cons_zero, List.set_cons_succ])
      (refine wpSeq_mov rfl rfl ?_; intro o ho; simp only [List.getElem?_toArray, List.getElem?_cons_zero, List.getElem?_cons_succ, Option.some.injEq] at ho; subst ho; refine ⟨?_, Or.inl ⟨by rfl, fun W hSW => ?_⟩, ?_⟩; rotate_left; (focus (go_simp; first | done | with_reducible rfl)); try simp only [Act.put, List.setIfInBounds_toArray, List.set_cons_zero, List.set_cons_succ])
      (refine wpSeq_mov rfl rfl ?_; intro o ho; simp only [List.getElem?_toArray, List.getElem?_cons_zero, List.getElem?_cons_succ, Option.some.injEq] at ho; subst ho; refine ⟨?_, Or.inl ⟨by rfl, fun W hSW => ?_⟩, ?_⟩; rotate_left; (focus (go_simp; first | done | with_reducible rfl)); try simp only [Act.put, List.setIfInBounds_toArray, List.set_cons_zero, List.set_cons_succ])
      (refine wpSeq_mov rfl rfl ?_; intro o ho; simp only [List.getElem?_toArray, List.getElem?_cons_zero, List.getElem?_cons_succ, Option.some.injEq] at ho; subst ho; refine ⟨?_, Or.inl ⟨by rfl, fun W hSW => ?_⟩, ?_⟩; rotate_left; (focus (go_simp; first | done | with_reducible rfl)); try simp only [Act.put, List.setIfInBounds_toArray, List.set_cons_zero, List.set_cons_succ])
      (refine wpSeq_mov rfl rfl ?_; intro o ho; simp only [List.getElem?_toArray, List.getElem?_cons_zero, List.getElem?_cons_succ, Option.some.injEq] at ho; subst ho; refine ⟨?_, Or.inl ⟨by rfl, fun W hSW => ?_⟩, ?_⟩; rotate_left; (focus (go_simp; first | done | with_reducible rfl)); try simp only [Act.put, List.setIfInBounds_toArray, List.set_cons_zero, List.set_cons_succ])
      (refine wpSeq_mov rfl rfl ?_; intro o ho; simp only [List.getElem?_toArray, List.getElem?_cons_zero, List.getElem?_cons_succ, Option.some.injEq] at ho; subst ho; refine ⟨?_, Or.inl ⟨by rfl, fun W hSW => ?_⟩, ?_⟩; rotate_left; (focus (go_simp; first | done | with_reducible rfl)); try simp only [Act.put, List.setIfInBounds_toArray, List.set_cons_zero, List.set_cons_succ])
      (refine wpSeq_mov rfl rfl ?_; intro o ho; simp only [List.getElem?_toArray, List.getElem?_cons_zero, List.getElem?_cons_succ, Option.some.injEq] at ho; subst ho; refine ⟨?_, Or.inl ⟨by rfl, fun W hSW => ?_⟩, ?_⟩; rotate_left; (focus (go_simp; first | done | with_reducible rfl)); try simp only [Act.put, List.setIfInBounds_toArray, List.set_cons_zero, List.set_cons_succ])
      (refine wpSeq_mov rfl rfl ?_; intro o ho; simp only [List.getElem?_toArray, List.getElem?_cons_zero, List.getElem?_cons_succ, Option.some.injEq] at ho; subst ho; refine ⟨?_, Or.inl ⟨by rfl, fun W hSW => ?_⟩, ?_⟩; rotate_left; (focus (go_simp; first | done | with_reducible rfl)); try simp only [Act.put, List.setIfInBounds_toArray, List.set_cons_zero, List.set_cons_succ])
      (refine wpSeq_mov rfl rfl ?_; intro o ho; simp only [List.getElem?_toArray, List.getElem?_cons_zero, List.getElem?_cons_succ, Option.some.injEq] at ho; subst ho; refine ⟨?_, Or.inl ⟨by rfl, fun W hSW => ?_⟩, ?_⟩; rotate_left; (focus (go_simp; first | done | with_reducible rfl)); try simp only [Act.put, List.setIfInBounds_toArray, List.set_cons_zero, List.set_cons_succ])
      (refine wpSeq_fix rfl rfl ?_; intro o ho; simp only [List.getElem?_toArray, List.getElem?_cons_zero, List.getElem?_cons_succ, Option.some.injEq] at ho; subst ho; intro K hK)
      go_simp
      refine (HE1.out B5 A4 d5 c4 _ HH.out.cap HH.out.prs hc4 HVk.out.p).mono ?_
      rintro e w7 ⟨rfl, hb⟩
      replace HLk := Lib.hid (HLk.out.step hb); replace HGk := Lib.hid (HGk.out.step hb); replace HVW := Lib.hid (HVW.out.step hb); replace HH := Lib.hid (HH.out.step hb)
      clear hb
      (refine hK.out _ _ (fun _ => ⟨(HH.out).c0, (HH.out).c1, HGk.out.c0, HGk.out.c1⟩) ?_; clear hK K; try simp only [Act.put, List.setIfInBounds_toArray, List.set_cons_zero, List.set_cons_succ])
      (refine wpSeq_fix rfl rfl ?_; intro o ho; simp only [List.getElem?_toArray, List.getElem?_cons_zero, List.getElem?_cons_succ, Option.some.injEq] at ho; subst ho; intro K hK)
      go_simp
      refine (HE2.out B J d cj _ HGk.out.cap HGk.out.prs hcj HVW.out.p).mono ?_
      rintro e w8 ⟨rfl, hb⟩
      replace HLk := Lib.hid (HLk.out.step hb); replace HGk := Lib.hid (HGk.out.step hb); replace HH := Lib.hid (HH.out.step hb)
      clear hb
      (refine hK.out _ _ (fun _ => ⟨(HH.out).c0, (HH.out).c1, HGk.out.c0, HGk.out.c1⟩) ?_; clear hK K; try simp only [Act.put, List.setIfInBounds_toArray, List.set_cons_zero, List.set_cons_succ])
      (refine wpSeq_mov rfl rfl ?_; intro o ho; simp only [List.getElem?_toArray, List.getElem?_cons_zero, List.getElem?_cons_succ, Option.some.injEq] at ho; subst ho; refine ⟨?_, Or.inl ⟨by rfl, fun W hSW => ?_⟩, ?_⟩; rotate_left; (focus (go_simp; first | done | with_reducible rfl)); try simp only [Act.put, List.setIfInBounds_toArray, List.set_cons_zero, List.set_cons_succ])
      (refine wpSeq_mov rfl rfl ?_; intro o ho; simp only [List.getElem?_toArray, List.getElem?_cons_zero, List.getElem?_cons_succ, Option.some.injEq] at ho; subst ho; refine ⟨?_, Or.inl ⟨by rfl, fun W hSW => ?_⟩, ?_⟩; rotate_left; (focus (go_simp; first | done | with_reducible rfl)); try simp only [Act.put, List.setIfInBounds_toArray, List.set_cons_zero, List.set_cons_succ])
      (refine wpSeq_mov rfl rfl ?_; intro o ho; simp only [List.getElem?_toArray, List.getElem?_cons_zero, List.getElem?_cons_succ, Option.some.injEq] at ho; subst ho; refine ⟨?_, Or.inl ⟨by rfl, fun W hSW => ?_⟩, ?_⟩; rotate_left; (focus (go_simp; first | done | with_reducible rfl)); try simp only [Act.put, List.setIfInBounds_toArray, List.set_cons_zero, List.set_cons_succ])
      refine wpSeq_done ?_
      go_wp2_with fail
      go_ret
      exact ⟨rfl, HLk.out.b⟩
end Go.Proofs.Ytbdhkagcbncefaa
