/- EvalGates's walk. -/
import Derived.Test.YtbdhkagcbncefaaLaw2
import Derived.Test.YtbdhkagcbncefaaPLaw2
set_option linter.unusedVariables false
set_option linter.unusedSimpArgs false
namespace Go.Proofs.Ytbdhkagcbncefaa
open Go.RowKit Go.Maps

set_option maxRecDepth 100000 in
set_option maxHeartbeats 2000000 in
theorem evalGates_any (n : Int) (xs : List Int) (A : Option Addr) (cp : Nat) (i a b c : Int) (w : World) (hn : 0 ≤ n ∧ n ≤ 255) (hx : U16 xs) (hcp : xs.length ≤ cp) (hcl : cp ≤ 70368744177664) (hp : Vals w w.heap.size A (u16s xs)) (hi : 0 ≤ i ∧ i ≤ 255)
    (ha : 0 ≤ a ∧ a ≤ 255) (hb : 0 ≤ b ∧ b ≤ 255) (hc : 0 ≤ c ∧ c ≤ 255) :
    Calls Try.prog 19 #[.int .u8 n, .slice A xs.length cp, .int .u8 i, .int .u8 a, .int .u8 b, .int .u8 c] w (Ret w (.bool true)) := by
  have hnot := @not_run Try.prog
  have HM := Lib.hid (fun (w1 : World) (h : Below w.heap.size w w1) => made_any (n % 7) xs A cp w1 (by omega) (by omega) hx (by omega) (hp.after h))
  have HI := Lib.hid (madeG_inv (n := n % 7) (by omega) (by omega) xs)
  generalize madeG (n % 7) xs = s at HM HI
  have n0 : 0 ≤ s.1.n := by rw [HI.out.n]; omega
  have n1 : s.1.n ≤ 6 := by rw [HI.out.n]; omega
  have l1 : s.1.as.length ≤ 40 := HI.out.len
  obtain ⟨N, hN⟩ : ∃ N : Nat, s.1.n = (N : Int) := ⟨s.1.n.toNat, by omega⟩
  have HN := Lib.hid hN
  have hN6 : N ≤ 6 := by omega
  have hll := lit_lt HI.out.lit
  have hl1 : s.2 ≤ 9223372036854775807 := by unfold Gr.vars at hll; omega
  clear hN hll
  have hmz : (2 * (s.1.n + 1 + (s.1.as.length : Int)) == 0) = false := by simp; omega
  have hM0 : 0 < 2 * (s.1.n + 1 + (s.1.as.length : Int)) := by omega
  obtain ⟨x, hxe⟩ : ∃ x, x = a % (2 * (s.1.n + 1 + (s.1.as.length : Int))) := ⟨_, rfl⟩
  obtain ⟨y, hye⟩ : ∃ y, y = b % (2 * (s.1.n + 1 + (s.1.as.length : Int))) := ⟨_, rfl⟩
  obtain ⟨z, hze⟩ : ∃ z, z = c % (2 * (s.1.n + 1 + (s.1.as.length : Int))) := ⟨_, rfl⟩
  have lx : litB s.1 x = true := lit_of HI.out.right (by rw [hxe]; exact Int.emod_nonneg _ (by omega)) (by rw [hxe]; exact Int.emod_lt_of_pos _ hM0)
  have ly : litB s.1 y = true := lit_of HI.out.right (by rw [hye]; exact Int.emod_nonneg _ (by omega)) (by rw [hye]; exact Int.emod_lt_of_pos _ hM0)
  have lz : litB s.1 z = true := lit_of HI.out.right (by rw [hze]; exact Int.emod_nonneg _ (by omega)) (by rw [hze]; exact Int.emod_lt_of_pos _ hM0)
  have hv : s.1.vars < 1990 := by unfold Gr.vars; omega
  have x1 : x ≤ 9223372036854775807 := by have := lit_lt lx; omega
  have y1 : y ≤ 9223372036854775807 := by have := lit_lt ly; omega
  have z1 : z ≤ 9223372036854775807 := by have := lit_lt lz; omega
  have hxl : (bitsG i N).length = N := bitsG_length _ _
  have hnn : ((bitsG i N).length : Int) = s.1.n := by rw [hxl, HN.out]
  have ea := andG_ok_of HI.out.right lx ly (by omega)
  have ga := andG_grows ea
  have sa := evalG_and hnn ea
  obtain ⟨eo, go, so⟩ := evalG_or HI.out.right hnn lx ly (by omega)
  obtain ⟨ei, gi, si⟩ := evalG_ite HI.out.right hnn lz lx ly hv
  have si2 := evalG_grown HI.out.right gi hnn lx
  have oka := andG_ok HI.out.ok x y
  have oko := orG_ok HI.out.ok x y
  have oki := iteG_ok HI.out.ok z x y
  obtain ⟨h, p, hh⟩ : ∃ h p, andG s.1 x y = (h, p, 0) := ⟨(andG s.1 x y).1, (andG s.1 x y).2.1, by rw [← ea]⟩
  obtain ⟨j, q, hj⟩ : ∃ h p, orG s.1 x y = (h, p, 0) := ⟨(orG s.1 x y).1, (orG s.1 x y).2.1, by rw [← eo]⟩
  obtain ⟨m, o, hm⟩ : ∃ h p, iteG s.1 z x y = (h, p, 0) := ⟨(iteG s.1 z x y).1, (iteG s.1 z x y).2.1, by rw [← ei]⟩
  rw [hh] at ga sa oka
  rw [hj] at go so oko
  rw [hm] at gi si si2 oki
  simp only at ga sa oka go so oko gi si si2 oki
  have HXx : Hid ((bitsG i N).length = N) := hxl
  have HGA := Lib.hid ga
  have HGO := Lib.hid go
  have HGI := Lib.hid gi
  have HOA := Lib.hid oka
  have HOO := Lib.hid oko
  have HOI := Lib.hid oki
  have lp : p ≤ 9223372036854775807 := by have := lit_lt ga.lit; have := right_vars ga.right; omega
  have lq : q ≤ 9223372036854775807 := by have := lit_lt go.lit; have := right_vars go.right; omega
  have lo : o ≤ 9223372036854775807 := by have := lit_lt gi.lit; have := right_vars gi.right; omega
  have HA := Lib.hid (fun (B : Option Addr) (d : Nat) (w1 : World) (k1 : s.1.as.length ≤ d) (k2 : Prs w1 w1.heap.size B s.1.as) => and_p s.1 B d w1 HI.out.ok k1 k2 x y x1 y1)
  have HO := Lib.hid (fun (B : Option Addr) (d : Nat) (w1 : World) (k1 : s.1.as.length ≤ d) (k2 : Prs w1 w1.heap.size B s.1.as) => or_p s.1 B d w1 HI.out.ok k1 k2 x y x1 y1)
  have HT := Lib.hid (fun (B : Option Addr) (d : Nat) (w1 : World) (k1 : s.1.as.length ≤ d) (k2 : Prs w1 w1.heap.size B s.1.as) => ite_p s.1 B d w1 HI.out.ok k1 k2 z x y z1 x1 y1)
  rw [hh] at HA
  rw [hj] at HO
  rw [hm] at HT
  have HEV : Hid (∀ (g : Gr) (hg : GOk g) (l : Int) (hl : l ≤ 9223372036854775807) (W : World) (b : Nat) (B X : Option Addr) (d kx : Nat) (hG : GBox W b g B d) (hk : N ≤ kx) (hv : ValsF W X (bools (bitsG i N))), Calls Try.prog 31 #[.agg #[.int .i64 g.n, .slice B g.as.length d], .int .i64 l, .slice X N kx] W (Ret W (.bool (evalG g l (bitsG i N))))) := fun g hg l hl W b B X d kx hG hk hv => by
    have := eEval_any g l (bitsG i N) B X d kx W hg hG.cap hG.prs (by rw [HXx.out]; exact hk) (by rw [HXx.out]; omega) hv.p hl
    rw [HXx.out] at this
    exact this
  have HE1 := Lib.hid (HEV.out s.1 HI.out.ok x x1)
  have HE2 := Lib.hid (HEV.out s.1 HI.out.ok y y1)
  have HE3 := Lib.hid (HEV.out s.1 HI.out.ok z z1)
  have HE4 := Lib.hid (HEV.out h HOA.out p lp)
  have HE5 := Lib.hid (HEV.out j HOO.out q lq)
  have HE6 := Lib.hid (HEV.out m HOI.out o lo)
  have HE7 := Lib.hid (HEV.out m HOI.out x x1)
  rw [sa] at HE4
  rw [so] at HE5
  rw [si] at HE6
  rw [si2] at HE7
  have HBT : Hid (∀ W : World, Calls Try.prog 36 #[.int .i64 i, .int .i64 s.1.n] W (RetB W (bitsG i N))) := fun W => by rw [HN.out]; exact bits_any i N W (by omega) (by omega) (by omega)
  generalize evalG s.1 x (bitsG i N) = P at HE1 HE4 HE5 HE6 HE7
  generalize evalG s.1 y (bitsG i N) = Q at HE2 HE4 HE5 HE6
  generalize evalG s.1 z (bitsG i N) = R at HE3 HE6
  generalize bitsG i N = v at HE1 HE2 HE3 HE4 HE5 HE6 HE7 HBT HXx
  have hxe' := hxe.symm
  have hye' := hye.symm
  have hze' := hze.symm
  clear hxe hye hze hxl hnn ea ga sa eo go so ei gi si si2 oka oko oki hh hj hm HEV HGA HGO HGI
  go_enter Try.func19, Try.ntmps19
  go_wp2_with fail
  refine (awake2_any _).mono ?_
  rintro e w0 ⟨rfl, hb⟩
  have HL := Lib.hid ((Low.refl w).step hb)
  clear hb
  go_wp2_with fail
  refine (HM.out w0 HL.out.b).mono ?_
  rintro e w1 ⟨B, d, rfl, hc1, hp1, hb⟩
  replace HL := Lib.hid (HL.out.step hb)
  replace HL := Lib.hid (HL.out.step (stepA w1 (.cells #[.int .i64 s.1.n, .slice B s.1.as.length d] 24)))
  have HG := Lib.hid (GBox.new hc1 hp1)
  clear hb hp1 hc1 HM
  have c0 := HG.out.c0
  have c1 := HG.out.c1
  go_wp2_with fail
  refine (rvars_any _ _ _ _ _ n0 (by omega) (by omega)).mono ?_
  rintro e w2 ⟨rfl, hb⟩
  replace HL := Lib.hid (HL.out.step hb); replace HG := Lib.hid (HG.out.step hb)
  clear hb
  replace c0 := HG.out.c0
  replace c1 := HG.out.c1
  go_wp2_with fail
  have hwa : IntKind.i64.wrap a = a := IntWalk.i64_in _ (by omega)
  have hta : Int.tmod a (2 * (s.1.n + 1 + (s.1.as.length : Int))) = x := (Int.tmod_eq_emod_of_nonneg (by omega)).trans hxe'
  have hwb : IntKind.i64.wrap b = b := IntWalk.i64_in _ (by omega)
  have htb : Int.tmod b (2 * (s.1.n + 1 + (s.1.as.length : Int))) = y := (Int.tmod_eq_emod_of_nonneg (by omega)).trans hye'
  have hwc : IntKind.i64.wrap c = c := IntWalk.i64_in _ (by omega)
  have htc : Int.tmod c (2 * (s.1.n + 1 + (s.1.as.length : Int))) = z := (Int.tmod_eq_emod_of_nonneg (by omega)).trans hze'
  have hmn : ¬ (2 * (s.1.n + 1 + (s.1.as.length : Int)) = 0) := by omega
  refine wp_region_noPanic ?_
  refine wp_region_seq (fun _ => True) [0, 1, 2, 3, 4, 5, 6, 7, 8, 9, 10, 11, 12, 13, 14] [0, 1, 2, 3, 4, 5, 6, 7, 8, 9, 10, 11, 12, 13, 14] [] (by kernel_rfl) (by kernel_rfl) rfl (by kernel_rfl) (by kernel_rfl) (fun _ _ _ _ _ h => h) ?_ (fun hSS => ?_)
  · trivial
  clear hSS
  (refine wpSeq_mov rfl rfl ?_; intro o ho; simp only [List.getElem?_toArray, List.getElem?_cons_zero, List.getElem?_cons_succ, Option.some.injEq] at ho; subst ho; refine ⟨?_, Or.inl ⟨by rfl, fun W hSW => ?_⟩, ?_⟩; rotate_left; (focus (go_simp; first | done | with_reducible rfl)); try simp only [Act.put, List.setIfInBounds_toArray, List.set_cons_zero, List.set_cons_succ])
  (refine wpSeq_mov rfl rfl ?_; intro o ho; simp only [List.getElem?_toArray, List.getElem?_cons_zero, List.getElem?_cons_succ, Option.some.injEq] at ho; subst ho; refine ⟨?_, Or.inl ⟨by rfl, fun W hSW => ?_⟩, ?_⟩; rotate_left; (focus (go_simp; first | done | with_reducible rfl)); try simp only [Act.put, List.setIfInBounds_toArray, List.set_cons_zero, List.set_cons_succ])
  (refine wpSeq_mov rfl rfl ?_; intro o ho; simp only [List.getElem?_toArray, List.getElem?_cons_zero, List.getElem?_cons_succ, Option.some.injEq] at ho; subst ho; refine ⟨?_, Or.inl ⟨by rfl, fun W hSW => ?_⟩, ?_⟩; rotate_left; (focus (go_simp; first | done | with_reducible rfl)); try simp only [Act.put, List.setIfInBounds_toArray, List.set_cons_zero, List.set_cons_succ])
  (refine wpSeq_mov rfl rfl ?_; intro o ho; simp only [List.getElem?_toArray, List.getElem?_cons_zero, List.getElem?_cons_succ, Option.some.injEq] at ho; subst ho; refine ⟨?_, Or.inl ⟨by rfl, fun W hSW => ?_⟩, ?_⟩; rotate_left; (focus (go_simp; first | done | with_reducible rfl)); try simp only [Act.put, List.setIfInBounds_toArray, List.set_cons_zero, List.set_cons_succ])
  (refine wpSeq_mov rfl rfl ?_; intro o ho; simp only [List.getElem?_toArray, List.getElem?_cons_zero, List.getElem?_cons_succ, Option.some.injEq] at ho; subst ho; refine ⟨?_, Or.inl ⟨by rfl, fun W hSW => ?_⟩, ?_⟩; rotate_left; (focus (go_simp; first | done | with_reducible rfl)); try simp only [Act.put, List.setIfInBounds_toArray, List.set_cons_zero, List.set_cons_succ])
  (refine wpSeq_mov rfl rfl ?_; intro o ho; simp only [List.getElem?_toArray, List.getElem?_cons_zero, List.getElem?_cons_succ, Option.some.injEq] at ho; subst ho; refine ⟨?_, Or.inl ⟨by rfl, fun W hSW => ?_⟩, ?_⟩; rotate_left; (focus (go_simp; first | done | with_reducible rfl)); try simp only [Act.put, List.setIfInBounds_toArray, List.set_cons_zero, List.set_cons_succ])
  (refine wpSeq_mov rfl rfl ?_; intro o ho; simp only [List.getElem?_toArray, List.getElem?_cons_zero, List.getElem?_cons_succ, Option.some.injEq] at ho; subst ho; refine ⟨?_, Or.inl ⟨by rfl, fun W hSW => ?_⟩, ?_⟩; rotate_left; (focus (go_simp; first | done | with_reducible rfl)); try simp only [Act.put, List.setIfInBounds_toArray, List.set_cons_zero, List.set_cons_succ])
  (refine wpSeq_mov rfl rfl ?_; intro o ho; simp only [List.getElem?_toArray, List.getElem?_cons_zero, List.getElem?_cons_succ, Option.some.injEq] at ho; subst ho; refine ⟨?_, Or.inl ⟨by rfl, fun W hSW => ?_⟩, ?_⟩; rotate_left; (focus (go_simp; first | done | with_reducible rfl)); try simp only [Act.put, List.setIfInBounds_toArray, List.set_cons_zero, List.set_cons_succ])
  (refine wpSeq_mov rfl rfl ?_; intro o ho; simp only [List.getElem?_toArray, List.getElem?_cons_zero, List.getElem?_cons_succ, Option.some.injEq] at ho; subst ho; refine ⟨?_, Or.inl ⟨by rfl, fun W hSW => ?_⟩, ?_⟩; rotate_left; (focus (go_simp; first | done | with_reducible rfl)); try simp only [Act.put, List.setIfInBounds_toArray, List.set_cons_zero, List.set_cons_succ])
  (refine wpSeq_mov rfl rfl ?_; intro o ho; simp only [List.getElem?_toArray, List.getElem?_cons_zero, List.getElem?_cons_succ, Option.some.injEq] at ho; subst ho; refine ⟨?_, Or.inl ⟨by rfl, fun W hSW => ?_⟩, ?_⟩; rotate_left; (focus (go_simp; first | done | with_reducible rfl)); try simp only [Act.put, List.setIfInBounds_toArray, List.set_cons_zero, List.set_cons_succ])
  (refine wpSeq_mov rfl rfl ?_; intro o ho; simp only [List.getElem?_toArray, List.getElem?_cons_zero, List.getElem?_cons_succ, Option.some.injEq] at ho; subst ho; refine ⟨?_, Or.inl ⟨by rfl, fun W hSW => ?_⟩, ?_⟩; rotate_left; (focus (go_simp; first | done | with_reducible rfl)); try simp only [Act.put, List.setIfInBounds_toArray, List.set_cons_zero, List.set_cons_succ])
  (refine wpSeq_mov rfl rfl ?_; intro o ho; simp only [List.getElem?_toArray, List.getElem?_cons_zero, List.getElem?_cons_succ, Option.some.injEq] at ho; subst ho; refine ⟨?_, Or.inl ⟨by rfl, fun W hSW => ?_⟩, ?_⟩; rotate_left; (focus (go_simp; first | done | with_reducible rfl)); try simp only [Act.put, List.setIfInBounds_toArray, List.set_cons_zero, List.set_cons_succ])
  (refine wpSeq_mov rfl rfl ?_; intro o ho; simp only [List.getElem?_toArray, List.getElem?_cons_zero, List.getElem?_cons_succ, Option.some.injEq] at ho; subst ho; refine ⟨?_, Or.inl ⟨by rfl, fun W hSW => ?_⟩, ?_⟩; rotate_left; (focus (go_simp; first | done | with_reducible rfl)); try simp only [Act.put, List.setIfInBounds_toArray, List.set_cons_zero, List.set_cons_succ])
  (refine wpSeq_mov rfl rfl ?_; intro o ho; simp only [List.getElem?_toArray, List.getElem?_cons_zero, List.getElem?_cons_succ, Option.some.injEq] at ho; subst ho; refine ⟨?_, Or.inl ⟨by rfl, fun W hSW => ?_⟩, ?_⟩; rotate_left; (focus (go_simp; first | done | with_reducible rfl)); try simp only [Act.put, List.setIfInBounds_toArray, List.set_cons_zero, List.set_cons_succ])
  (refine wpSeq_mov rfl rfl ?_; intro o ho; simp only [List.getElem?_toArray, List.getElem?_cons_zero, List.getElem?_cons_succ, Option.some.injEq] at ho; subst ho; refine ⟨?_, Or.inl ⟨by rfl, fun W hSW => ?_⟩, ?_⟩; rotate_left; (focus (go_simp; first | done | with_reducible rfl)); try simp only [Act.put, List.setIfInBounds_toArray, List.set_cons_zero, List.set_cons_succ])
  refine wpSeq_done ?_
  replace HL := Lib.hid (HL.out.step (stepD1 _)); replace HG := Lib.hid (HG.out.step (stepD1 _))
  clear hxe' hye' hze' hmz hM0 hwa hwb hwc hta htb htc hmn
  replace c0 := HG.out.c0
  replace c1 := HG.out.c1
  go_wp2_with fail
  refine (HBT.out _).mono ?_
  rintro e w3 ⟨X, kx, rfl, hkx, hv, hb⟩
  replace HL := Lib.hid (HL.out.step hb); replace HG := Lib.hid (HG.out.step hb)
  have HVx : Hid (ValsF w3 X (bools v)) := ⟨hv⟩
  clear hb hv HBT
  rw [HXx.out] at hkx ⊢
  replace c0 := HG.out.c0
  replace c1 := HG.out.c1
  have HD1 := Lib.hid (fun (W : World) (h : Low w3 W) => HE1.out W _ B X d kx (HG.out.step h.b) hkx (HVx.out.step h.b))
  have HD2 := Lib.hid (fun (W : World) (h : Low w3 W) => HE2.out W _ B X d kx (HG.out.step h.b) hkx (HVx.out.step h.b))
  have HD3 := Lib.hid (fun (W : World) (h : Low w3 W) => HE3.out W _ B X d kx (HG.out.step h.b) hkx (HVx.out.step h.b))
  go_wp2_with fail
  refine wp_region_noPanic ?_
  refine wp_region_seq (fun W => W.cell? ⟨w1.heap.size, 0, none⟩ = some (.int .i64 s.1.n) ∧ W.cell? ⟨w1.heap.size, 1, none⟩ = some (.slice B s.1.as.length d) ∧ Low w3 W) [0, 1, 2, 4, 5, 6, 8, 9, 10, 3, 7, 11, 12, 13, 14] [0, 1, 2, 4, 5, 6, 8, 9, 10, 12, 13, 14] [] (by kernel_rfl) (by kernel_rfl) rfl (by kernel_rfl) (by kernel_rfl) (fun _ _ _ _ _ h => h) ?_ (fun hSS => ?_)
  · exact ⟨c0, c1, (Low.refl _).step (stepD1 _)⟩
  have HR := Lib.hid ((Low.refl w3).step (stepD1 w3))
  clear c0 c1 hSS
  (refine wpSeq_mov rfl rfl ?_; intro o ho; simp only [List.getElem?_toArray, List.getElem?_cons_zero, List.getElem?_cons_succ, Option.some.injEq] at ho; subst ho; refine ⟨?_, Or.inl ⟨by rfl, fun W hSW => ?_⟩, ?_⟩; rotate_left; (focus (go_simp; first | done | with_reducible rfl)); try simp only [Act.put, List.setIfInBounds_toArray, List.set_cons_zero, List.set_cons_succ])
  (refine wpSeq_mov rfl rfl ?_; intro o ho; simp only [List.getElem?_toArray, List.getElem?_cons_zero, List.getElem?_cons_succ, Option.some.injEq] at ho; subst ho; refine ⟨?_, Or.inl ⟨by rfl, fun W hSW => ?_⟩, ?_⟩; rotate_left; (focus (go_simp; first | done | with_reducible rfl)); try simp only [Act.put, List.setIfInBounds_toArray, List.set_cons_zero, List.set_cons_succ])
  (refine wpSeq_mov rfl rfl ?_; intro o ho; simp only [List.getElem?_toArray, List.getElem?_cons_zero, List.getElem?_cons_succ, Option.some.injEq] at ho; subst ho; refine ⟨?_, Or.inl ⟨by rfl, fun W hSW => ?_⟩, ?_⟩; rotate_left; (focus (go_simp; first | done | with_reducible rfl)); try simp only [Act.put, List.setIfInBounds_toArray, List.set_cons_zero, List.set_cons_succ])
  (refine wpSeq_mov rfl rfl ?_; intro o ho; simp only [List.getElem?_toArray, List.getElem?_cons_zero, List.getElem?_cons_succ, Option.some.injEq] at ho; subst ho; refine ⟨?_, Or.inl ⟨by rfl, fun W hSW => ?_⟩, ?_⟩; rotate_left; (focus (go_simp; first | done | with_reducible rfl)); try simp only [Act.put, List.setIfInBounds_toArray, List.set_cons_zero, List.set_cons_succ])
  (refine wpSeq_mov rfl rfl ?_; intro o ho; simp only [List.getElem?_toArray, List.getElem?_cons_zero, List.getElem?_cons_succ, Option.some.injEq] at ho; subst ho; refine ⟨?_, Or.inl ⟨by rfl, fun W hSW => ?_⟩, ?_⟩; rotate_left; (focus (go_simp; first | done | with_reducible rfl)); try simp only [Act.put, List.setIfInBounds_toArray, List.set_cons_zero, List.set_cons_succ])
  (refine wpSeq_mov rfl rfl ?_; intro o ho; simp only [List.getElem?_toArray, List.getElem?_cons_zero, List.getElem?_cons_succ, Option.some.injEq] at ho; subst ho; refine ⟨?_, Or.inl ⟨by rfl, fun W hSW => ?_⟩, ?_⟩; rotate_left; (focus (go_simp; first | done | with_reducible rfl)); try simp only [Act.put, List.setIfInBounds_toArray, List.set_cons_zero, List.set_cons_succ])
  (refine wpSeq_mov rfl rfl ?_; intro o ho; simp only [List.getElem?_toArray, List.getElem?_cons_zero, List.getElem?_cons_succ, Option.some.injEq] at ho; subst ho; refine ⟨?_, Or.inl ⟨by rfl, fun W hSW => ?_⟩, ?_⟩; rotate_left; (focus (go_simp; first | done | with_reducible rfl)); try simp only [Act.put, List.setIfInBounds_toArray, List.set_cons_zero, List.set_cons_succ])
  (refine wpSeq_mov rfl rfl ?_; intro o ho; simp only [List.getElem?_toArray, List.getElem?_cons_zero, List.getElem?_cons_succ, Option.some.injEq] at ho; subst ho; refine ⟨?_, Or.inl ⟨by rfl, fun W hSW => ?_⟩, ?_⟩; rotate_left; (focus (go_simp; first | done | with_reducible rfl)); try simp only [Act.put, List.setIfInBounds_toArray, List.set_cons_zero, List.set_cons_succ])
  (refine wpSeq_mov rfl rfl ?_; intro o ho; simp only [List.getElem?_toArray, List.getElem?_cons_zero, List.getElem?_cons_succ, Option.some.injEq] at ho; subst ho; refine ⟨?_, Or.inl ⟨by rfl, fun W hSW => ?_⟩, ?_⟩; rotate_left; (focus (go_simp; first | done | with_reducible rfl)); try simp only [Act.put, List.setIfInBounds_toArray, List.set_cons_zero, List.set_cons_succ])
  (refine wpSeq_fix rfl rfl ?_; intro o ho; simp only [List.getElem?_toArray, List.getElem?_cons_zero, List.getElem?_cons_succ, Option.some.injEq] at ho; subst ho; intro K hK)
  go_simp
  refine (HD1.out _ HR.out).mono ?_
  rintro e w4 ⟨rfl, hb⟩
  replace HR := Lib.hid (HR.out.step hb)
  clear hb
  (refine hK.out _ _ (fun _ => ⟨(HG.out.step HR.out.b).c0, (HG.out.step HR.out.b).c1, HR.out⟩) ?_; clear hK K; try simp only [Act.put, List.setIfInBounds_toArray, List.set_cons_zero, List.set_cons_succ])
  (refine wpSeq_fix rfl rfl ?_; intro o ho; simp only [List.getElem?_toArray, List.getElem?_cons_zero, List.getElem?_cons_succ, Option.some.injEq] at ho; subst ho; intro K hK)
  go_simp
  refine (HD2.out _ HR.out).mono ?_
  rintro e w5 ⟨rfl, hb⟩
  replace HR := Lib.hid (HR.out.step hb)
  clear hb
  (refine hK.out _ _ (fun _ => ⟨(HG.out.step HR.out.b).c0, (HG.out.step HR.out.b).c1, HR.out⟩) ?_; clear hK K; try simp only [Act.put, List.setIfInBounds_toArray, List.set_cons_zero, List.set_cons_succ])
  (refine wpSeq_fix rfl rfl ?_; intro o ho; simp only [List.getElem?_toArray, List.getElem?_cons_zero, List.getElem?_cons_succ, Option.some.injEq] at ho; subst ho; intro K hK)
  go_simp
  refine (HD3.out _ HR.out).mono ?_
  rintro e w6 ⟨rfl, hb⟩
  replace HR := Lib.hid (HR.out.step hb)
  clear hb
  (refine hK.out _ _ (fun _ => ⟨(HG.out.step HR.out.b).c0, (HG.out.step HR.out.b).c1, HR.out⟩) ?_; clear hK K; try simp only [Act.put, List.setIfInBounds_toArray, List.set_cons_zero, List.set_cons_succ])
  (refine wpSeq_mov rfl rfl ?_; intro o ho; simp only [List.getElem?_toArray, List.getElem?_cons_zero, List.getElem?_cons_succ, Option.some.injEq] at ho; subst ho; refine ⟨?_, Or.inl ⟨by rfl, fun W hSW => ?_⟩, ?_⟩; rotate_left; (focus (go_simp; first | done | with_reducible rfl)); try simp only [Act.put, List.setIfInBounds_toArray, List.set_cons_zero, List.set_cons_succ])
  (refine wpSeq_mov rfl rfl ?_; intro o ho; simp only [List.getElem?_toArray, List.getElem?_cons_zero, List.getElem?_cons_succ, Option.some.injEq] at ho; subst ho; refine ⟨?_, Or.inl ⟨by rfl, fun W hSW => ?_⟩, ?_⟩; rotate_left; (focus (go_simp; first | done | with_reducible rfl)); try simp only [Act.put, List.setIfInBounds_toArray, List.set_cons_zero, List.set_cons_succ])
  (refine wpSeq_mov rfl rfl ?_; intro o ho; simp only [List.getElem?_toArray, List.getElem?_cons_zero, List.getElem?_cons_succ, Option.some.injEq] at ho; subst ho; refine ⟨?_, Or.inl ⟨by rfl, fun W hSW => ?_⟩, ?_⟩; rotate_left; (focus (go_simp; first | done | with_reducible rfl)); try simp only [Act.put, List.setIfInBounds_toArray, List.set_cons_zero, List.set_cons_succ])
  refine wpSeq_done ?_
  replace HL := Lib.hid (HL.out.step HR.out.b); replace HG := Lib.hid (HG.out.step HR.out.b); replace HVx := Lib.hid (HVx.out.step HR.out.b)
  clear HR HD1 HD2 HD3
  have c0 := HG.out.c0
  have c1 := HG.out.c1
  go_wp2_with fail
  refine (HA.out B d _ HG.out.cap HG.out.prs).mono ?_
  rintro e w7 ⟨B7, d7, rfl, hc, hp, hb⟩
  replace HL := Lib.hid (HL.out.step hb); replace HG := Lib.hid (HG.out.step hb); replace HVx := Lib.hid (HVx.out.step hb)
  replace HL := Lib.hid (HL.out.step (stepA w7 (.cells #[.int .i64 h.n, .slice B7 h.as.length d7] 24))); replace HG := Lib.hid (HG.out.step (stepA w7 (.cells #[.int .i64 h.n, .slice B7 h.as.length d7] 24))); replace HVx := Lib.hid (HVx.out.step (stepA w7 (.cells #[.int .i64 h.n, .slice B7 h.as.length d7] 24)))
  have HGh := Lib.hid (GBox.new hc hp)
  clear hb hp hc
  replace c0 := HG.out.c0
  replace c1 := HG.out.c1
  go_wp2_with fail
  refine (HO.out B d _ HG.out.cap HG.out.prs).mono ?_
  rintro e w8 ⟨B8, d8, rfl, hc, hp, hb⟩
  replace HL := Lib.hid (HL.out.step hb); replace HG := Lib.hid (HG.out.step hb); replace HVx := Lib.hid (HVx.out.step hb); replace HGh := Lib.hid (HGh.out.step hb)
  replace HL := Lib.hid (HL.out.step (stepA w8 (.cells #[.int .i64 j.n, .slice B8 j.as.length d8] 24))); replace HG := Lib.hid (HG.out.step (stepA w8 (.cells #[.int .i64 j.n, .slice B8 j.as.length d8] 24))); replace HVx := Lib.hid (HVx.out.step (stepA w8 (.cells #[.int .i64 j.n, .slice B8 j.as.length d8] 24))); replace HGh := Lib.hid (HGh.out.step (stepA w8 (.cells #[.int .i64 j.n, .slice B8 j.as.length d8] 24)))
  have HGj := Lib.hid (GBox.new hc hp)
  clear hb hp hc
  replace c0 := HG.out.c0
  replace c1 := HG.out.c1
  go_wp2_with fail
  refine (HT.out B d _ HG.out.cap HG.out.prs).mono ?_
  rintro e w9 ⟨B9, d9, rfl, hc, hp, hb⟩
  replace HL := Lib.hid (HL.out.step hb); replace HG := Lib.hid (HG.out.step hb); replace HVx := Lib.hid (HVx.out.step hb); replace HGh := Lib.hid (HGh.out.step hb); replace HGj := Lib.hid (HGj.out.step hb)
  replace HL := Lib.hid (HL.out.step (stepA w9 (.cells #[.int .i64 m.n, .slice B9 m.as.length d9] 24))); replace HG := Lib.hid (HG.out.step (stepA w9 (.cells #[.int .i64 m.n, .slice B9 m.as.length d9] 24))); replace HVx := Lib.hid (HVx.out.step (stepA w9 (.cells #[.int .i64 m.n, .slice B9 m.as.length d9] 24))); replace HGh := Lib.hid (HGh.out.step (stepA w9 (.cells #[.int .i64 m.n, .slice B9 m.as.length d9] 24))); replace HGj := Lib.hid (HGj.out.step (stepA w9 (.cells #[.int .i64 m.n, .slice B9 m.as.length d9] 24)))
  have HGm := Lib.hid (GBox.new hc hp)
  clear hb hp hc
  clear c0 c1
  have d0 := HGh.out.c0
  have d1 := HGh.out.c1
  clear HE1 HE2 HE3 HA HO HT HG
  cases P <;> cases Q <;> cases R
  all_goals
    go_wp2_with fail
    refine (HE4.out _ _ _ _ _ _ HGh.out hkx HVx.out).mono ?_
    rintro e w10 ⟨rfl, hb⟩
    replace HL := Lib.hid (HL.out.step hb); replace HGj := Lib.hid (HGj.out.step hb); replace HGm := Lib.hid (HGm.out.step hb); replace HVx := Lib.hid (HVx.out.step hb)
    clear hb d0 d1
    have d0 := HGj.out.c0
    have d1 := HGj.out.c1
    go_wp2_with fail
    refine (HE5.out _ _ _ _ _ _ HGj.out hkx HVx.out).mono ?_
    rintro e w11 ⟨rfl, hb⟩
    replace HL := Lib.hid (HL.out.step hb); replace HGm := Lib.hid (HGm.out.step hb); replace HVx := Lib.hid (HVx.out.step hb)
    clear hb d0 d1
    have d0 := HGm.out.c0
    have d1 := HGm.out.c1
    go_wp2_with fail
    refine (HE6.out _ _ _ _ _ _ HGm.out hkx HVx.out).mono ?_
    rintro e w12 ⟨rfl, hb⟩
    replace HL := Lib.hid (HL.out.step hb); replace HGm := Lib.hid (HGm.out.step hb); replace HVx := Lib.hid (HVx.out.step hb)
    replace d0 := HGm.out.c0
    replace d1 := HGm.out.c1
    clear hb
    go_wp2_with fail
    refine (HE7.out _ _ _ _ _ _ HGm.out hkx HVx.out).mono ?_
    rintro e w13 ⟨rfl, hb⟩
    replace HL := Lib.hid (HL.out.step hb)
    clear hb d0 d1
    go_wp2_with fail
    go_ret
    exact ⟨rfl, HL.out.b⟩
end Go.Proofs.Ytbdhkagcbncefaa
