/- Layer 15: SatMore. -/
import Derived.Test.YtbkmgblijncjhaaG7
import Derived.Test.YtbkmgblijncjhaaG8
import Derived.Test.YtbkmgblijncjhaaMore15
set_option linter.unusedVariables false
set_option linter.unusedSimpArgs false
namespace Go.Proofs.Ytbkmgblijncjhaa
open Go.RowKit Go.Maps

/-- A model's literals. -/
def allP (L : List Bool) (j : Nat) : List Int := (List.range j).map fun i => if L.getD i false then (i : Int) + 1 else -((i : Int) + 1)
theorem allP_succ (L : List Bool) (j : Nat) : allP L (j + 1) = allP L j ++ [if L.getD j false then (j : Int) + 1 else -((j : Int) + 1)] := by simp [allP, List.range_succ]
theorem allP_len (L : List Bool) (j : Nat) : (allP L j).length = j := by simp [allP]
theorem allP_on (K L : List Bool) (i : Nat) : litOn (mL K) (if L.getD i false then (i : Int) + 1 else -((i : Int) + 1)) = (K.getD i false == L.getD i false) := by
  unfold litOn mL
  cases L.getD i false
  · rw [show (if false = true then (i : Int) + 1 else -((i : Int) + 1)) = -((i : Int) + 1) from rfl, if_pos (by omega), show (-((i : Int) + 1)).natAbs - 1 = i by omega]
    cases K.getD i false <;> rfl
  · rw [show (if true = true then (i : Int) + 1 else -((i : Int) + 1)) = (i : Int) + 1 from rfl, if_neg (by omega), show ((i : Int) + 1).natAbs - 1 = i by omega]
    cases K.getD i false <;> rfl
theorem allP_self (L : List Bool) (j : Nat) : ∀ a ∈ allP L j, litOn (mL L) a = true := by
  intro a ha
  obtain ⟨i, _, rfl⟩ := List.mem_map.1 ha
  rw [allP_on]
  simp
theorem allP_eq {K L : List Bool} (hl : K.length = L.length) (h : ∀ a ∈ allP L L.length, litOn (mL K) a = true) : K = L := by
  apply List.ext_getElem hl
  intro i h1 h2
  have := h _ (List.mem_map.2 ⟨i, List.mem_range.2 h2, rfl⟩)
  rw [allP_on] at this
  simpa [List.getD_eq_getElem?_getD, h1, h2] using this
theorem allP_ok {V : Nat} (L : List Bool) : (allP L V).any (oddX V) = false := by
  rw [List.any_eq_false]
  intro x hx
  obtain ⟨i, hi, rfl⟩ := List.mem_map.1 hx
  have := List.mem_range.1 hi
  rw [oddX_no.2 (by split <;> omega)]
  simp

set_option maxHeartbeats 1000000 in
theorem same15_any (xs : List Bool) (A B : Option Addr) (c d : Nat) (w : World) (hl : xs.length ≤ 140737488355328) (hx : Vals w w.heap.size A (bools xs)) (hy : Vals w w.heap.size B (bools xs)) :
    Calls Try.prog 20 #[.slice A xs.length c, .slice B xs.length d] w (Ret w (.bool true)) := by
  have HX := Lib.hid hx
  have HY := Lib.hid hy
  clear hx hy
  have hne : ((xs.length : Int) != (xs.length : Int)) = false := by simp
  go_enter Try.func20, Try.ntmps20
  go_wp2_with fail
  go_loopw [5] (fun s wr => ∃ k : Nat, k ≤ xs.length ∧ s = .int .i64 k ∧ Low w wr) (fun s _ => xs.length - (intOf s).toNat)
  case atStart => exact ⟨0, Nat.zero_le _, rfl, Low.refl _⟩
  case round =>
    obtain ⟨k, hk, rfl, hlow⟩ := hrel
    have HL := Lib.hid hlow
    clear hlow
    by_cases hlt : k < xs.length
    · have hlt' : (k : Int) < (xs.length : Int) := by omega
      obtain ⟨x, hxk⟩ : ∃ q, xs[k]? = some q := ⟨_, List.getElem?_eq_getElem hlt⟩
      obtain ⟨b1, o1, rfl, _, q1⟩ := (HX.out.after HL.out.b) k _ (bools_get hxk)
      obtain ⟨b2, o2, rfl, _, q2⟩ := (HY.out.after HL.out.b) k _ (bools_get hxk)
      clear hxk
      go_wp2_with fail
      refine wp_region_noPanic ?_
      refine wp_region_seq (fun W => W.cell? ⟨b1, o1 + k, none⟩ = some (.bool x) ∧ W.cell? ⟨b2, o2 + k, none⟩ = some (.bool x)) [0, 1, 2, 3, 4, 5, 6, 7, 8] [0, 1, 2, 3, 4, 5, 6, 7, 8] [] (by kernel_rfl) (by kernel_rfl) rfl (by kernel_rfl) (by kernel_rfl) (fun _ _ _ _ _ h => h) ?_ (fun hSS => ?_)
      · exact ⟨q1, q2⟩
      (refine wpSeq_mov rfl rfl ?_; intro o ho; simp only [List.getElem?_toArray, List.getElem?_cons_zero, List.getElem?_cons_succ, Option.some.injEq] at ho; subst ho; refine ⟨?_, Or.inl ⟨by rfl, fun W hSW => ?_⟩, ?_⟩; rotate_left; (focus (go_simp; first | done | with_reducible rfl)); try simp only [Act.put, List.setIfInBounds_toArray, List.set_cons_zero, List.set_cons_succ])
      (refine wpSeq_mov rfl rfl ?_; intro o ho; simp only [List.getElem?_toArray, List.getElem?_cons_zero, List.getElem?_cons_succ, Option.some.injEq] at ho; subst ho; refine ⟨?_, Or.inl ⟨by rfl, fun W hSW => ?_⟩, ?_⟩; rotate_left; (focus (go_simp; first | done | with_reducible rfl)); try simp only [Act.put, List.setIfInBounds_toArray, List.set_cons_zero, List.set_cons_succ])
      (refine wpSeq_mov rfl rfl ?_; intro o ho; simp only [List.getElem?_toArray, List.getElem?_cons_zero, List.getElem?_cons_succ, Option.some.injEq] at ho; subst ho; refine ⟨?_, Or.inl ⟨by rfl, fun W hSW => ?_⟩, ?_⟩; rotate_left; (focus (go_simp; first | done | with_reducible rfl)); try simp only [Act.put, List.setIfInBounds_toArray, List.set_cons_zero, List.set_cons_succ])
      (refine wpSeq_mov rfl rfl ?_; intro o ho; simp only [List.getElem?_toArray, List.getElem?_cons_zero, List.getElem?_cons_succ, Option.some.injEq] at ho; subst ho; refine ⟨?_, Or.inl ⟨by rfl, fun W hSW => ?_⟩, ?_⟩; rotate_left; (focus (go_simp; first | done | with_reducible rfl)); try simp only [Act.put, List.setIfInBounds_toArray, List.set_cons_zero, List.set_cons_succ])
      (refine wpSeq_mov rfl rfl ?_; intro o ho; simp only [List.getElem?_toArray, List.getElem?_cons_zero, List.getElem?_cons_succ, Option.some.injEq] at ho; subst ho; refine ⟨?_, Or.inl ⟨by rfl, fun W hSW => ?_⟩, ?_⟩; rotate_left; (focus (go_simp; first | done | with_reducible rfl)); try simp only [Act.put, List.setIfInBounds_toArray, List.set_cons_zero, List.set_cons_succ])
      (refine wpSeq_mov rfl rfl ?_; intro o ho; simp only [List.getElem?_toArray, List.getElem?_cons_zero, List.getElem?_cons_succ, Option.some.injEq] at ho; subst ho; refine ⟨?_, Or.inl ⟨by rfl, fun W hSW => ?_⟩, ?_⟩; rotate_left; (focus (go_simp; first | done | with_reducible rfl)); try simp only [Act.put, List.setIfInBounds_toArray, List.set_cons_zero, List.set_cons_succ])
      (refine wpSeq_mov rfl rfl ?_; intro o ho; simp only [List.getElem?_toArray, List.getElem?_cons_zero, List.getElem?_cons_succ, Option.some.injEq] at ho; subst ho; refine ⟨?_, Or.inl ⟨by rfl, fun W hSW => ?_⟩, ?_⟩; rotate_left; (focus (go_simp; first | done | with_reducible rfl)); try simp only [Act.put, List.setIfInBounds_toArray, List.set_cons_zero, List.set_cons_succ])
      (refine wpSeq_mov rfl rfl ?_; intro o ho; simp only [List.getElem?_toArray, List.getElem?_cons_zero, List.getElem?_cons_succ, Option.some.injEq] at ho; subst ho; refine ⟨?_, Or.inl ⟨by rfl, fun W hSW => ?_⟩, ?_⟩; rotate_left; (focus (go_simp; first | done | with_reducible rfl)); try simp only [Act.put, List.setIfInBounds_toArray, List.set_cons_zero, List.set_cons_succ])
      (refine wpSeq_mov rfl rfl ?_; intro o ho; simp only [List.getElem?_toArray, List.getElem?_cons_zero, List.getElem?_cons_succ, Option.some.injEq] at ho; subst ho; refine ⟨?_, Or.inl ⟨by rfl, fun W hSW => ?_⟩, ?_⟩; rotate_left; (focus (go_simp; first | done | with_reducible rfl)); try simp only [Act.put, List.setIfInBounds_toArray, List.set_cons_zero, List.set_cons_succ])
      refine wpSeq_done ?_
      go_wp2_with fail
      go_roundw
      case rel => exact ⟨k + 1, by omega, by go_num, HL.out.step (stepD1 _)⟩
      case measure => simp [intOf]; omega
    · have hlt' : ¬ ((k : Int) < (xs.length : Int)) := by omega
      go_wp2_with fail
      go_ret
      exact Ret.mk rfl HL.out.b

def slotsM (V : Nat) (n : Int) (A : Option Addr) (xl c : Nat) (B : Option Addr) (yl d : Nat) (z : Int) (p : Nat) (D : Option Addr) (ll dd : Nat) (C : Option Addr) (cl cc : Nat) (v : Nat → Value) : Act :=
  { tmps := #[.int .u8 n, .slice A xl c, .slice B yl d, .int .u8 z, undef,
          undef, undef, undef, .bool false, .bool true,
          .pointer (some ⟨p, 0, none⟩), .slice D ll dd, .slice none 0 0,
          .bool false, .int .i64 0, v 15, undef, undef, undef, undef, undef, undef, undef, undef,
          undef, undef, undef, undef, .bool true, .bool true, .bool false, .int .u8 n,
          .slice A xl c, .agg #[.int .i64 V, .slice C cl cc],
          .slice B yl d, .pointer (some ⟨p, 0, none⟩), .int .i64 V,
          .slice D ll dd, .tuple #[.slice none 0 0, .bool false, .int .i64 0],
          .agg #[.int .i64 V, .slice C cl cc], .slice D ll dd,
          .tuple #[.slice none 0 0, .bool false, .int .i64 0], .slice none 0 0,
          .bool false, .int .i64 0, .int .i64 0, .bool false, .bool false,
          .bool true, .pointer (some ⟨p, 0, none⟩), .int .i64 V, .pointer (some ⟨p, 1, none⟩), .slice C cl cc, v 4, .int .u8 z, .int .i64 z, .pointer (some ⟨p, 0, none⟩), .int .i64 V, .int .i64 (z % V), .int .i64 (1 + z % V), v 11, v 12, v 13, v 14, undef, undef, undef, undef, undef, undef, undef, undef, undef, undef, undef, undef, undef, undef, undef, undef, undef, undef, undef, undef, undef, undef, undef, undef, undef, undef, undef, undef, undef, undef, undef, undef, undef, undef, undef, undef, undef, undef, undef, undef, undef, undef, undef, undef, undef, undef, undef, undef, undef, undef, undef, undef, undef, undef, undef, undef, undef, undef, undef, undef, undef, undef, undef, undef, undef, undef, undef, undef, undef, undef, undef, undef, undef, undef, undef, undef, undef, undef], defers := [] }

def slotsM2 (V : Nat) (n : Int) (A : Option Addr) (xl c : Nat) (B : Option Addr) (yl d : Nat) (z : Int) (p : Nat) (D : Option Addr) (ll dd : Nat) (C : Option Addr) (cl cc : Nat) (p2 : Nat) (A5 : Option Addr) (c5 : Nat) (q4 q11 q12 q13 : Value) (v : Nat → Value) : Act :=
  { tmps := #[.int .u8 n, .slice A xl c, .slice B yl d, .int .u8 z, undef,
          undef, undef, undef, .bool false, .bool true,
          .pointer (some ⟨p, 0, none⟩), .slice D ll dd, .slice none 0 0,
          .bool false, .int .i64 0, .pointer (some ⟨p2, 0, none⟩), .slice none 0 0, .bool false, .int .i64 0, undef, undef, undef, undef, undef,
          undef, undef, undef, undef, .bool true, .bool true, .bool false, .int .u8 n,
          .slice A xl c, .agg #[.int .i64 V, .slice C cl cc],
          .slice B yl d, .pointer (some ⟨p, 0, none⟩), .int .i64 V,
          .slice D ll dd, .tuple #[.slice none 0 0, .bool false, .int .i64 0],
          .agg #[.int .i64 V, .slice C cl cc], .slice D ll dd,
          .tuple #[.slice none 0 0, .bool false, .int .i64 0], .slice none 0 0,
          .bool false, .int .i64 0, .int .i64 0, .bool false, .bool false,
          .bool true, .pointer (some ⟨p, 0, none⟩), .int .i64 V, .pointer (some ⟨p, 1, none⟩), .slice C cl cc, q4, .int .u8 z, .int .i64 z, .pointer (some ⟨p, 0, none⟩), .int .i64 V, .int .i64 (z % V), .int .i64 (1 + z % V), q11, q12, q13, .agg #[.int .i64 V, .slice A5 (cl + 1) c5],
          .tuple #[.slice none 0 0, .bool false, .int .i64 0], .agg #[.int .i64 V, .slice A5 (cl + 1) c5], .slice D ll dd, .tuple #[.slice none 0 0, .bool false, .int .i64 0], .slice none 0 0, .bool false, .int .i64 0,
          undef, .agg #[.int .i64 V, .slice C cl cc], .slice D ll dd, v 2, .int .u8 z, .int .i64 z, .pointer (some ⟨p, 0, none⟩), .int .i64 V, .int .i64 (z % V), .int .i64 (-1 - z % V), v 9, undef, undef, undef, undef, undef, undef, undef, undef, undef, undef, undef, undef, undef, undef, undef, undef, undef, undef, undef, undef, undef, undef, undef, undef, undef, undef, undef, undef, undef, undef, undef, undef, undef, undef, undef, undef, undef, undef, undef, undef, undef, undef, undef, undef, undef, undef, undef, undef, undef, undef, undef, undef, undef, undef, undef, undef, undef, undef, undef, undef], defers := [] }

set_option maxRecDepth 100000 in
set_option maxHeartbeats 8000000 in
theorem satMore_any (n : Int) (xs : List Int) (A : Option Addr) (c : Nat) (ys : List Int) (B : Option Addr) (d : Nat) (z : Int) (w : World) (hn : 0 ≤ n ∧ n ≤ 255) (hx : ∀ x ∈ xs, 0 ≤ x ∧ x ≤ 65535) (hc : xs.length ≤ c) (hcl : c ≤ 70368744177664) (hp : Vals w w.heap.size A (u16s xs)) (hy : ∀ x ∈ ys, 0 ≤ x ∧ x ≤ 255) (hd : ys.length ≤ d) (hdl : d ≤ 140737488355328) (hq : Vals w w.heap.size B (u8k ys)) (hz : 0 ≤ z ∧ z ≤ 255) :
    Calls Try.prog 6 #[.int .u8 n, .slice A xs.length c, .slice B ys.length d, .int .u8 z] w (Ret w (.bool true)) := by
  have hnot := @not_run Try.prog
  obtain ⟨n0, n1⟩ := hn
  obtain ⟨z0, z1⟩ := hz
  have HP := Lib.hid hp
  have HQ := Lib.hid hq
  have HX : Hid (U16 xs) := Lib.hid hx
  have HY := Lib.hid hy
  clear hp hq hx hy
  go_enter Try.func6, Try.ntmps6
  go_wp2_with fail
  refine (awake15_any _).mono ?_
  rintro e w0 ⟨rfl, hb⟩
  have HL0 := Lib.hid ((Low.refl w).step hb)
  clear hb
  go_wp2_with fail
  refine (made15_any n xs A c _ n0 n1 HX.out (by omega) (HP.out.after HL0.out.b)).mono ?_
  obtain ⟨V, hV⟩ : ∃ V : Nat, (V : Int) = 1 + n % 9 := ⟨(1 + n % 9).toNat, by omega⟩
  rw [← hV]
  have hV1 : 1 ≤ V := by omega
  have hV9 : V ≤ 9 := by omega
  have HML := Lib.hid (madeK_len V xs)
  have HMS := Lib.hid (madeK_small (V := V) (xs := xs) HX.out)
  have HMR := Lib.hid (madeK_right (V := V) (xs := xs) (by omega) (by omega))
  have HFL := Lib.hid (fewK_len V ys)
  have HFO := Lib.hid (fewK_ok (V := V) (xs := ys) (by omega))
  clear hV
  generalize madeK V xs = cs at HML HMS HMR ⊢
  rintro e w1 ⟨C, cc, rfl, hcl1, hcc, hb⟩
  have HCL := Lib.hid hcl1
  have HL := Lib.hid (HL0.out.step hb)
  clear hb hcl1
  have HK := Lib.hid (BlkF.new w1 24 #[.int .i64 V, .slice C cs.length cc])
  have HL2 := Lib.hid (HL.out.step (stepA w1 (.cells #[.int .i64 V, .slice C cs.length cc] 24)))
  have HCL2 := Lib.hid (HCL.out.after (stepA w1 (.cells #[.int .i64 V, .slice C cs.length cc] 24)))
  have c0 := HK.out.cell 0
  have c1 := HK.out.cell 1
  clear HL HCL
  go_wp2_with fail
  refine (few_any V ys B d _ (by omega) (by omega) HY.out (by omega) (HQ.out.after HL2.out.b)).mono ?_
  generalize fewK V ys = l at HFL HFO ⊢
  rintro e w2 ⟨D, dd, rfl, hdd, hvl, hb⟩
  have HVL : Hid (ValsF w2 D (i64s l)) := Lib.hid ⟨hvl⟩
  replace HCL2 := Lib.hid (HCL2.out.after hb)
  replace HL2 := Lib.hid (HL2.out.step hb); replace HK := Lib.hid (HK.out.step hb)
  have HFLo := HFL.out
  have HMLo := HML.out
  have HFA : Hid (l.any (oddX V) = false) := Lib.hid (List.any_eq_false.2 fun x hx => by rw [oddX_no.2 (HFO.out x hx)]; simp)
  replace c0 := HK.out.cell 0
  replace c1 := HK.out.cell 1
  clear hb hvl
  go_wp2_with fail
  refine (solve_any V (by omega) cs C cc l D dd _ HMR.out HFA.out (fun x hx => by have := HMS.out x hx; omega) (by omega) HCL2.out HVL.out.p hcc hdd).mono ?_
  rintro e w3 ⟨hb, ⟨rfl, hno⟩ | ⟨g, L, rfl, hg, hbl, hL, hsat, hall⟩⟩
  · have HNO := Lib.hid hno
    replace HCL2 := Lib.hid (HCL2.out.after hb)
    replace HL2 := Lib.hid (HL2.out.step hb); replace HK := Lib.hid (HK.out.step hb); replace HVL := Lib.hid (HVL.out.step hb)
    replace c0 := HK.out.cell 0
    replace c1 := HK.out.cell 1
    clear hb hno
    go_wp2_with fail
    obtain ⟨vs, hvl, hvv, hv1, hvc⟩ := HCL2.out.slots
    have HVV := Lib.hid hvv
    have HV1 := Lib.hid hv1
    have HVC := Lib.hid hvc
    have HVSL := Lib.hid hvl
    have hvk : vs.length ≤ 40 := by omega
    have hV0 : ¬ (V : Int) = 0 := by omega
    have hV0n : ¬ V = 0 := by omega
    have ht1 : z.tmod V = z % V := Int.tmod_eq_emod_of_nonneg z0
    have hm1 := Int.emod_nonneg z (by omega : (V : Int) ≠ 0)
    have hm2 := Int.emod_lt_of_pos z (by omega : 0 < (V : Int))
    have hw1 : IntKind.i64.wrap (1 + z % V) = 1 + z % V := IntWalk.i64_in _ (by omega)
    have hwz : IntKind.i64.wrap z = z := IntWalk.i64_in _ (by omega)
    have hpw : w1.heap.size < w3.heap.size := HK.out.p.lt
    clear hvl hvv hv1 hvc
    refine wp_region_noPanic ?_
    refine wp_region_bag (fun W => W.cell? ⟨w1.heap.size, 0, none⟩ = some (.int .i64 (V : Int)) ∧ W.cell? ⟨w1.heap.size, 1, none⟩ = some (.slice C cs.length cc)) [0, 1, 2, 3, 5, 6, 7, 8, 9, 10] [4, 11, 12, 13, 14, 15] [16] [] (fun i => if i = 12 then [11] else if i = 13 then [4, 12] else if i = 14 then [13] else []) (fun f a W => ∃ v, a = slotsM V n A xs.length c B ys.length d z w1.heap.size D l.length dd C cs.length cc v ∧ M1 w3.drew W V cs.length vs (1 + z % V) f v) (by kernel_rfl) (by kernel_rfl) rfl (by kernel_rfl) (by decide) (by kernel_rfl) (by kernel_rfl) (fun _ _ _ _ _ h => h) ⟨c0, c1⟩ (fun hSS => ?_) ?_ ?_ ?_
    · skip
      (refine wpMovs_mov rfl ?_; intro o ho; simp only [List.getElem?_toArray, List.getElem?_cons_zero, List.getElem?_cons_succ, Option.some.injEq] at ho; subst ho; refine ⟨?_, Or.inl ⟨by rfl, fun W hSW => ?_⟩, ?_⟩; rotate_left; (focus (go_simp; first | done | with_reducible rfl)); try simp only [Act.put, List.setIfInBounds_toArray, List.set_cons_zero, List.set_cons_succ])
      (refine wpMovs_mov rfl ?_; intro o ho; simp only [List.getElem?_toArray, List.getElem?_cons_zero, List.getElem?_cons_succ, Option.some.injEq] at ho; subst ho; refine ⟨?_, Or.inl ⟨by rfl, fun W hSW => ?_⟩, ?_⟩; rotate_left; (focus (go_simp; first | done | with_reducible rfl)); try simp only [Act.put, List.setIfInBounds_toArray, List.set_cons_zero, List.set_cons_succ])
      (refine wpMovs_mov rfl ?_; intro o ho; simp only [List.getElem?_toArray, List.getElem?_cons_zero, List.getElem?_cons_succ, Option.some.injEq] at ho; subst ho; refine ⟨?_, Or.inl ⟨by rfl, fun W hSW => ?_⟩, ?_⟩; rotate_left; (focus (go_simp; first | done | with_reducible rfl)); try simp only [Act.put, List.setIfInBounds_toArray, List.set_cons_zero, List.set_cons_succ])
      (refine wpMovs_mov rfl ?_; intro o ho; simp only [List.getElem?_toArray, List.getElem?_cons_zero, List.getElem?_cons_succ, Option.some.injEq] at ho; subst ho; refine ⟨?_, Or.inl ⟨by rfl, fun W hSW => ?_⟩, ?_⟩; rotate_left; (focus (go_simp; first | done | with_reducible rfl)); try simp only [Act.put, List.setIfInBounds_toArray, List.set_cons_zero, List.set_cons_succ])
      (refine wpMovs_mov rfl ?_; intro o ho; simp only [List.getElem?_toArray, List.getElem?_cons_zero, List.getElem?_cons_succ, Option.some.injEq] at ho; subst ho; refine ⟨?_, Or.inl ⟨by rfl, fun W hSW => ?_⟩, ?_⟩; rotate_left; (focus (go_simp; first | done | with_reducible rfl)); try simp only [Act.put, List.setIfInBounds_toArray, List.set_cons_zero, List.set_cons_succ])
      (refine wpMovs_mov rfl ?_; intro o ho; simp only [List.getElem?_toArray, List.getElem?_cons_zero, List.getElem?_cons_succ, Option.some.injEq] at ho; subst ho; refine ⟨?_, Or.inl ⟨by rfl, fun W hSW => ?_⟩, ?_⟩; rotate_left; (focus (go_simp; first | done | with_reducible rfl)); try simp only [Act.put, List.setIfInBounds_toArray, List.set_cons_zero, List.set_cons_succ])
      (refine wpMovs_mov rfl ?_; intro o ho; simp only [List.getElem?_toArray, List.getElem?_cons_zero, List.getElem?_cons_succ, Option.some.injEq] at ho; subst ho; refine ⟨?_, Or.inl ⟨by rfl, fun W hSW => ?_⟩, ?_⟩; rotate_left; (focus (go_simp; first | done | with_reducible rfl)); try simp only [Act.put, List.setIfInBounds_toArray, List.set_cons_zero, List.set_cons_succ])
      (refine wpMovs_mov rfl ?_; intro o ho; simp only [List.getElem?_toArray, List.getElem?_cons_zero, List.getElem?_cons_succ, Option.some.injEq] at ho; subst ho; refine ⟨?_, Or.inl ⟨by rfl, fun W hSW => ?_⟩, ?_⟩; rotate_left; (focus (go_simp; first | done | with_reducible rfl)); try simp only [Act.put, List.setIfInBounds_toArray, List.set_cons_zero, List.set_cons_succ])
      (refine wpMovs_mov rfl ?_; intro o ho; simp only [List.getElem?_toArray, List.getElem?_cons_zero, List.getElem?_cons_succ, Option.some.injEq] at ho; subst ho; refine ⟨?_, Or.inl ⟨by rfl, fun W hSW => ?_⟩, ?_⟩; rotate_left; (focus (go_simp; first | done | with_reducible rfl)); try simp only [Act.put, List.setIfInBounds_toArray, List.set_cons_zero, List.set_cons_succ])
      (refine wpMovs_mov rfl ?_; intro o ho; simp only [List.getElem?_toArray, List.getElem?_cons_zero, List.getElem?_cons_succ, Option.some.injEq] at ho; subst ho; refine ⟨?_, Or.inl ⟨by rfl, fun W hSW => ?_⟩, ?_⟩; rotate_left; (focus (go_simp; first | done | with_reducible rfl)); try simp only [Act.put, List.setIfInBounds_toArray, List.set_cons_zero, List.set_cons_succ])
      exact ⟨fun _ => undef, rfl, M1.start _⟩
    · rintro f a W ⟨v, rfl, hI⟩
      have hb : Below w3.heap.size w3 W := below2 (stepD1 w3) (Nat.le_refl _) hI.low
      exact ⟨((HK.out.step hb).cell 0), ((HK.out.step hb).cell 1)⟩
    · rintro f a W i ⟨v, rfl, hI⟩ hi hf hpre
      have HI := Lib.hid hI
      have hsz : w3.drew.heap.size ≤ W.heap.size := hI.low.size
      have hb : Below w3.heap.size w3 W := below2 (stepD1 w3) (Nat.le_refl _) hI.low
      have HVW := Lib.hid (HVV.out.after hb)
      obtain ⟨q0, hq0, hy0, hy1, hy2⟩ := info_parts rowInfoK
      clear hI hb
      unfold slotsM
      simp only [List.mem_cons, List.mem_nil_iff, or_false] at hi
      rcases hi with rfl | rfl | rfl | rfl | rfl | rfl
      · refine wpOp_in rfl ?_
        intro o ho
        simp only [List.getElem?_toArray, List.getElem?_cons_zero, List.getElem?_cons_succ, Option.some.injEq] at ho
        subst ho
        intro K hK
        refine step_append_vals rfl (.const (.slice none 0 0)) (.tmp 52) 22 rfl w3.drew.heap.size 25 q0 _ 1 24 Try.underlying22 hq0 hy0 hy1 hy2 rfl (by omega) (.slice none 0 0) 0 [] rfl (World.ownsRow_nil _ _ _ _) _ C cs.length cc vs rfl (by rw [HVSL.out, Nat.mul_one]) HVW.out HV1.out (by unfold maxLen; omega) (by omega) hsz ?_
        intro A4 c4 w4 ho4 hg4
        rw [Nat.zero_add, List.nil_append] at ho4
        rw [Nat.zero_add]
        refine hK.out _ _ ⟨setV v 4 (.slice A4 cs.length c4), ?_, (HI.out.step (grown_nil hg4)).put4 hf ho4⟩
        rfl
      · refine wpOp_in rfl ?_
        intro o ho
        simp only [List.getElem?_toArray, List.getElem?_cons_zero, List.getElem?_cons_succ, Option.some.injEq] at ho
        subst ho
        intro K hK
        go_simp
        refine hK.out _ _ ⟨setV v 11 (.slice (some ⟨W.heap.size, 0, none⟩) 1 1), ?_, (HI.out.step (stepA W _)).put11 hf hsz (Blk.new W _ _)⟩
        rfl
      · have h11 := hpre 11 (by simp)
        refine wpOp_in rfl ?_
        intro o ho
        simp only [List.getElem?_toArray, List.getElem?_cons_zero, List.getElem?_cons_succ, Option.some.injEq] at ho
        subst ho
        intro K hK
        obtain ⟨g, e11, _⟩ := HI.out.a11 h11
        have HE := Lib.hid e11
        rw [e11]
        clear e11
        go_simp
        refine hK.out _ _ ⟨setV v 12 (.slice (some ⟨W.heap.size, 0, none⟩) 1 1), ?_, (HI.out.step (stepA W _)).put12 h11 hf (by rw [HE.out]; exact Blk.new W _ _)⟩
        simp [slotsM, setV, HE.out]
      · have h4 := hpre 4 (by simp)
        have h12 := hpre 12 (by simp)
        obtain ⟨A4, c4, e4, ho4⟩ := HI.out.a4 h4 hf
        obtain ⟨g, e12, hb12⟩ := HI.out.a12 h12 hf
        obtain ⟨g11, e11, _⟩ := HI.out.a11 (HI.out.c12 h12)
        have HE4 := Lib.hid e4
        have HE12 := Lib.hid e12
        have HB12 := Lib.hid hb12
        have HO4 := Lib.hid ho4
        have HU : Hid ((v 11).oneCell' = true) := Lib.hid (by rw [e11]; rfl)
        clear e4 e12 ho4 hb12 e11
        refine wpOp_in rfl ?_
        intro o ho
        simp only [List.getElem?_toArray, List.getElem?_cons_zero, List.getElem?_cons_succ, Option.some.injEq] at ho
        subst ho
        intro K hK
        refine step_append_vals rfl (.tmp 53) (.tmp 61) 22 rfl w3.drew.heap.size 25 q0 _ 1 24 Try.underlying22 hq0 hy0 hy1 hy2 rfl (by omega) (v 4) cs.length vs rfl HO4.out _ (some ⟨g, 0, none⟩) 1 1 [v 11] HE12.out rfl (vals_of_blk (xs := [v 11]) HB12.out) (fun u hu => by obtain rfl := List.mem_singleton.1 hu; exact HU.out) (by unfold maxLen; omega) (by omega) hsz ?_
        intro A5 c5 w5 ho5 hg5
        refine hK.out _ _ ⟨setV v 13 (.slice A5 (cs.length + 1) c5), ?_, HI.out.put13 h4 h12 hf hg5 ho5⟩
        rfl
      · have h13 := hpre 13 (by simp)
        obtain ⟨A5, c5, e13, _⟩ := HI.out.a13 h13
        have HE := Lib.hid e13
        refine wpOp_in rfl ?_
        intro o ho
        simp only [List.getElem?_toArray, List.getElem?_cons_zero, List.getElem?_cons_succ, Option.some.injEq] at ho
        subst ho
        intro K hK
        rw [e13]
        clear e13
        go_simp
        refine hK.out _ _ ⟨setV v 14 (.agg #[.int .i64 V, v 13]), ?_, HI.out.put14 h13⟩
        simp [slotsM, setV, HE.out]
      · refine wpOp_in rfl ?_
        intro o ho
        simp only [List.getElem?_toArray, List.getElem?_cons_zero, List.getElem?_cons_succ, Option.some.injEq] at ho
        subst ho
        intro K hK
        go_simp
        refine hK.out _ _ ⟨setV v 15 (.pointer (some ⟨W.heap.size, 0, none⟩)), ?_, (HI.out.step (stepA W _)).put15 hsz (Blk.new W _ _)⟩
        rfl
    · rintro f a W ⟨v, rfl, hI⟩ hall
      obtain ⟨A5, c5, e13, ho13⟩ := hI.a13 (hall 13 (by simp))
      obtain ⟨g, e11, hg, hb11⟩ := hI.a11 (hall 11 (by simp))
      obtain ⟨p2, e15, hp2, hb15⟩ := hI.a15 (hall 15 (by simp))
      have e14 := hI.a14 (hall 14 (by simp))
      rw [e13] at e14 ho13
      rw [e11] at ho13
      have HI := Lib.hid hI
      have HO := Lib.hid ho13
      have HB := Lib.hid hb15
      have HB11 := Lib.hid hb11
      unfold slotsM
      rw [e15, e14]
      have hb : Below w3.heap.size w3 W := below2 (stepD1 w3) (Nat.le_refl _) hI.low
      have hsz : w3.heap.size ≤ p2 := hp2
      have HK2 := Lib.hid (HK.out.step hb)
      have HL3 := Lib.hid (HL2.out.step hb)
      have HBW := Lib.hid hb
      have k0 := HB.out.cell 0
      have k1 := HB.out.cell 1
      have g0 := HB.out.frozen 0
      have g1 := HB.out.frozen 1
      clear hI ho13 hb15 hb11 hall e14 hb e13 e11 e15
      (refine wpSeq_fix rfl rfl ?_; intro o ho; simp only [List.getElem?_toArray, List.getElem?_cons_zero, List.getElem?_cons_succ, Option.some.injEq] at ho; subst ho; intro K hK)
      go_simp
      have hpne : w1.heap.size ≠ p2 := by omega
      (refine hK.out _ _ (fun _ => ⟨((HK2.out.p.far (p := ⟨p2, 0, none⟩) hpne _).far (p := ⟨p2, 1, none⟩) hpne _).cell 0, ((HK2.out.p.far (p := ⟨p2, 0, none⟩) hpne _).far (p := ⟨p2, 1, none⟩) hpne _).cell 1⟩) ?_; clear hK K; try simp only [Act.put, List.setIfInBounds_toArray, List.set_cons_zero, List.set_cons_succ])
      refine wpSeq_done ?_
      have hb4 := (HBW.out.setCell (p := ⟨p2, 0, none⟩) hsz (.int .i64 V)).setCell (p := ⟨p2, 1, none⟩) hsz (.slice A5 (cs.length + 1) c5)
      have hP4 := (HB.out.set_ 0 (.int .i64 V)).set_ 1 (.slice A5 (cs.length + 1) c5)
      have hO4 := own_set (own_set HO.out HB.out (by decide) 0 (.int .i64 V)) (HB.out.set_ 0 (.int .i64 V)) (by decide) 1 (.slice A5 (cs.length + 1) c5)
      have hg11 : g ≠ p2 := (HasI.of_blk (l := [1 + z % V]) HB11.out).ne HB.out (by decide)
      have hB4 := (HB11.out.far (p := ⟨p2, 0, none⟩) hg11 (.int .i64 V)).far (p := ⟨p2, 1, none⟩) hg11 (.slice A5 (cs.length + 1) c5)
      have HO4 := Lib.hid hO4
      have HB4 := Lib.hid hB4
      have HBW4 := Lib.hid hb4
      have HP4 : Hid (BlkF _ p2 24 #[.int .i64 V, .slice A5 (cs.length + 1) c5]) := Lib.hid ⟨hP4⟩
      clear hb4 hP4 hO4 hB4 k0 k1 g0 g1 HO HB HB11 HK2 HBW HI hg11
      generalize (W.setCell ⟨p2, 0, none⟩ (.int .i64 V)).setCell ⟨p2, 1, none⟩ (.slice A5 (cs.length + 1) c5) = w4 at HO4 HB4 HBW4 HP4 ⊢
      have HK4 := Lib.hid (HK.out.step HBW4.out)
      have HL4 := Lib.hid (HL2.out.step HBW4.out)
      have HCL4 : Hid (Cls w4 w4.heap.size A5 (cs ++ [[1 + z % V]])) := Lib.hid (cls_of_vals (Vals.of_own HO4.out) (fun i x hx => by
        rcases Nat.lt_or_ge i cs.length with h | h
        · rw [List.getElem?_append_left h] at hx
          obtain ⟨E, ee, h1, h2, h3⟩ := HVC.out i x hx
          exact ⟨E, ee, by rw [List.getElem?_append_left (by rw [HVSL.out]; exact h)]; exact h1, h2, h3.after HBW4.out⟩
        · rw [List.getElem?_append_right h] at hx
          obtain rfl : i = cs.length := by
            have := (List.getElem?_eq_some_iff.1 hx).1
            simp at this
            omega
          simp at hx
          subst hx
          refine ⟨some ⟨g, 0, none⟩, 1, ?_, Nat.le_refl _, vals_of_blk HB4.out⟩
          rw [List.getElem?_append_right (by rw [HVSL.out]; exact Nat.le_refl _), HVSL.out]
          simp))
      have HSD := Lib.hid (solve_any V (by omega) (cs ++ [[1 + z % V]]) A5 c5 l D dd w4 (rightC_iff.2 ⟨by omega, by omega, by simp; omega, fun q hq x hx => by
          rcases List.mem_append.1 hq with h | h
          · exact (rightC_iff.1 HMR.out).2.2.2 q h x hx
          · obtain rfl := List.mem_singleton.1 h
            obtain rfl := List.mem_singleton.1 hx
            omega⟩) HFA.out (fun x hx => by
          rcases List.mem_append.1 hx with h | h
          · have := HMS.out x h; omega
          · obtain rfl := List.mem_singleton.1 h
            simp) (by omega) HCL4.out (HVL.out.p.after HBW4.out) (by have := own_cap HO4.out; simp; omega) hdd)
      rw [show (cs ++ [[1 + z % V]]).length = cs.length + 1 by simp] at HSD
      have k0 := HP4.out.cell 0
      have k1 := HP4.out.cell 1
      clear HO4 HB4 HP4 hpne
      go_wp2_with fail
      refine HSD.out.mono ?_
      rintro e w5 ⟨hb, ⟨rfl, _⟩ | ⟨g2, L2, rfl, _, _, _, hsat, hall⟩⟩
      rotate_left
      · exact (HNO.out _ (fun q hq => hsat q (List.mem_append_left _ hq)) hall).elim
      have HVL5 := Lib.hid (HVL.out.step (step2 HBW4.out hb))
      have HCL5 := Lib.hid ((HCL2.out.after HBW4.out).after hb)
      replace HK4 := Lib.hid (HK4.out.step hb); replace HL4 := Lib.hid (HL4.out.step hb)
      clear hb HSD k0 k1 HCL4 c0 c1
      have c0 := HK4.out.cell 0
      have c1 := HK4.out.cell 1
      go_wp2_with fail
      have hw2 : IntKind.i64.wrap (-1 - z % V) = -1 - z % V := IntWalk.i64_in _ (by omega)
      have hlw : w5.heap.size ≤ w5.drew.heap.size := Nat.le_refl _
      refine wp_region_noPanic ?_
      refine wp_region_bag (fun W => W.cell? ⟨w1.heap.size, 0, none⟩ = some (.int .i64 (V : Int)) ∧ W.cell? ⟨w1.heap.size, 1, none⟩ = some (.slice C cs.length cc)) [0, 1, 3, 4, 5, 6, 7, 8] [2, 9] [10, 11, 12, 13, 14, 15, 16, 17, 18] [12, 13, 14, 15, 16, 17, 18] (fun _ => []) (fun f a W => ∃ v', a = slotsM2 V n A xs.length c B ys.length d z w1.heap.size D l.length dd C cs.length cc p2 A5 c5 (v 4) (v 11) (v 12) (v 13) v' ∧ M2 w5.drew W l (-1 - z % V) f v') (by kernel_rfl) (by kernel_rfl) rfl (by kernel_rfl) (by decide) (by kernel_rfl) (by kernel_rfl) (fun _ _ _ _ _ h => h) ⟨c0, c1⟩ (fun hSS => ?_) ?_ ?_ ?_
      · skip
        (refine wpMovs_mov rfl ?_; intro o ho; simp only [List.getElem?_toArray, List.getElem?_cons_zero, List.getElem?_cons_succ, Option.some.injEq] at ho; subst ho; refine ⟨?_, Or.inl ⟨by rfl, fun W hSW => ?_⟩, ?_⟩; rotate_left; (focus (go_simp; first | done | with_reducible rfl)); try simp only [Act.put, List.setIfInBounds_toArray, List.set_cons_zero, List.set_cons_succ])
        (refine wpMovs_mov rfl ?_; intro o ho; simp only [List.getElem?_toArray, List.getElem?_cons_zero, List.getElem?_cons_succ, Option.some.injEq] at ho; subst ho; refine ⟨?_, Or.inl ⟨by rfl, fun W hSW => ?_⟩, ?_⟩; rotate_left; (focus (go_simp; first | done | with_reducible rfl)); try simp only [Act.put, List.setIfInBounds_toArray, List.set_cons_zero, List.set_cons_succ])
        (refine wpMovs_mov rfl ?_; intro o ho; simp only [List.getElem?_toArray, List.getElem?_cons_zero, List.getElem?_cons_succ, Option.some.injEq] at ho; subst ho; refine ⟨?_, Or.inl ⟨by rfl, fun W hSW => ?_⟩, ?_⟩; rotate_left; (focus (go_simp; first | done | with_reducible rfl)); try simp only [Act.put, List.setIfInBounds_toArray, List.set_cons_zero, List.set_cons_succ])
        (refine wpMovs_mov rfl ?_; intro o ho; simp only [List.getElem?_toArray, List.getElem?_cons_zero, List.getElem?_cons_succ, Option.some.injEq] at ho; subst ho; refine ⟨?_, Or.inl ⟨by rfl, fun W hSW => ?_⟩, ?_⟩; rotate_left; (focus (go_simp; first | done | with_reducible rfl)); try simp only [Act.put, List.setIfInBounds_toArray, List.set_cons_zero, List.set_cons_succ])
        (refine wpMovs_mov rfl ?_; intro o ho; simp only [List.getElem?_toArray, List.getElem?_cons_zero, List.getElem?_cons_succ, Option.some.injEq] at ho; subst ho; refine ⟨?_, Or.inl ⟨by rfl, fun W hSW => ?_⟩, ?_⟩; rotate_left; (focus (go_simp; first | done | with_reducible rfl)); try simp only [Act.put, List.setIfInBounds_toArray, List.set_cons_zero, List.set_cons_succ])
        (refine wpMovs_mov rfl ?_; intro o ho; simp only [List.getElem?_toArray, List.getElem?_cons_zero, List.getElem?_cons_succ, Option.some.injEq] at ho; subst ho; refine ⟨?_, Or.inl ⟨by rfl, fun W hSW => ?_⟩, ?_⟩; rotate_left; (focus (go_simp; first | done | with_reducible rfl)); try simp only [Act.put, List.setIfInBounds_toArray, List.set_cons_zero, List.set_cons_succ])
        (refine wpMovs_mov rfl ?_; intro o ho; simp only [List.getElem?_toArray, List.getElem?_cons_zero, List.getElem?_cons_succ, Option.some.injEq] at ho; subst ho; refine ⟨?_, Or.inl ⟨by rfl, fun W hSW => ?_⟩, ?_⟩; rotate_left; (focus (go_simp; first | done | with_reducible rfl)); try simp only [Act.put, List.setIfInBounds_toArray, List.set_cons_zero, List.set_cons_succ])
        (refine wpMovs_mov rfl ?_; intro o ho; simp only [List.getElem?_toArray, List.getElem?_cons_zero, List.getElem?_cons_succ, Option.some.injEq] at ho; subst ho; refine ⟨?_, Or.inl ⟨by rfl, fun W hSW => ?_⟩, ?_⟩; rotate_left; (focus (go_simp; first | done | with_reducible rfl)); try simp only [Act.put, List.setIfInBounds_toArray, List.set_cons_zero, List.set_cons_succ])
        exact ⟨fun _ => undef, rfl, M2.start _⟩
      · rintro f a W ⟨v', rfl, hI⟩
        have hb : Below w5.heap.size w5 W := below2 (stepD1 w5) (Nat.le_refl _) hI.low
        exact ⟨((HK4.out.step hb).cell 0), ((HK4.out.step hb).cell 1)⟩
      · rintro f a W i ⟨v', rfl, hI⟩ hi hf hpre
        have HI := Lib.hid hI
        have hsz5 : w5.drew.heap.size ≤ W.heap.size := hI.low.size
        have hb : Below w5.heap.size w5 W := below2 (stepD1 w5) (Nat.le_refl _) hI.low
        have HVW := Lib.hid (HVL5.out.step hb)
        obtain ⟨i0, hi0, hz0, hz1, hz2⟩ := info_parts intInfoK
        clear hI hb
        unfold slotsM2
        simp only [List.mem_cons, List.mem_nil_iff, or_false] at hi
        rcases hi with rfl | rfl
        · refine wpOp_in rfl ?_
          intro o ho
          simp only [List.getElem?_toArray, List.getElem?_cons_zero, List.getElem?_cons_succ, Option.some.injEq] at ho
          subst ho
          intro K hK
          refine step_append_vals rfl (.const (.slice none 0 0)) (.tmp 73) 25 rfl w5.drew.heap.size 3 i0 _ 1 8 Try.underlying25 hi0 hz0 hz1 hz2 rfl (by omega) (.slice none 0 0) 0 [] rfl (World.ownsRow_nil _ _ _ _) _ D l.length dd (i64s l) rfl (by rw [i64s_length, Nat.mul_one]) HVW.out.p (i64s_one l) (by unfold maxLen; omega) (by omega) hsz5 ?_
          intro A6 c6 w6 ho6 hg6
          rw [Nat.zero_add, List.nil_append] at ho6
          rw [Nat.zero_add]
          refine hK.out _ _ ⟨setV v' 2 (.slice A6 l.length c6), ?_, (HI.out.step (grown_nil hg6)).put2 ho6⟩
          rfl
        · refine wpOp_in rfl ?_
          intro o ho
          simp only [List.getElem?_toArray, List.getElem?_cons_zero, List.getElem?_cons_succ, Option.some.injEq] at ho
          subst ho
          intro K hK
          go_simp
          refine hK.out _ _ ⟨setV v' 9 (.slice (some ⟨W.heap.size, 0, none⟩) 1 1), ?_, (HI.out.step (stepA W _)).put9 (Blk.new W _ _)⟩
          rfl
      · rintro f a W ⟨v', rfl, hI⟩ hall
        obtain ⟨A6, c6, e2, ho6⟩ := hI.a2 (hall 2 (by simp))
        obtain ⟨g9, e9, hb9⟩ := hI.a9 (hall 9 (by simp))
        rw [e2] at ho6
        have HO6 := Lib.hid ho6
        have HB9 := Lib.hid hb9
        unfold slotsM2
        rw [e2, e9]
        have hb : Below w5.heap.size w5 W := below2 (stepD1 w5) (Nat.le_refl _) hI.low
        have hszW : w5.drew.heap.size ≤ W.heap.size := hI.low.size
        have HK6 := Lib.hid (HK4.out.step hb)
        have HL6 := Lib.hid (HL4.out.step hb)
        have HCL6 := Lib.hid (HCL5.out.after hb)
        obtain ⟨i0, hi0, hz0, hz1, hz2⟩ := info_parts intInfoK
        have HBW5 := Lib.hid hb
        clear hI ho6 hb9 hall hb e2 e9 c0 c1
        (refine wpSeq_fix rfl rfl ?_; intro o ho; simp only [List.getElem?_toArray, List.getElem?_cons_zero, List.getElem?_cons_succ, Option.some.injEq] at ho; subst ho; intro K hK)
        refine step_append_vals rfl (.tmp 74) (.tmp 81) 25 rfl w5.drew.heap.size 3 i0 _ 1 8 Try.underlying25 hi0 hz0 hz1 hz2 rfl (by omega) (.slice A6 l.length c6) l.length (i64s l) rfl HO6.out _ (some ⟨g9, 0, none⟩) 1 1 [.int .i64 (-1 - z % V)] rfl rfl (vals_of_blk (xs := [.int .i64 (-1 - z % V)]) HB9.out) (i64s_one [-1 - z % V]) (by unfold maxLen; omega) (by omega) hszW ?_
        intro A7 c7 w7 ho7 hg7
        have hlow7 : Below w5.heap.size W w7 := (Below.refl w5.heap.size W).grown hg7 hszW (own_block HO6.out)
        have HO7 := Lib.hid ho7
        have HK7 : Hid (BlkF w7 w1.heap.size 24 #[.int .i64 V, .slice C cs.length cc]) := Lib.hid ⟨HK6.out.p.by_ hg7 (own_ne HO6.out HK6.out.p (by decide))⟩
        have HL7 := Lib.hid ((HL6.out).grown hg7 (fun k hk => by
          have h1 := own_block HO6.out k hk
          have h2 := HL4.out.size
          have h3 : w5.drew.heap.size = w5.heap.size := rfl
          omega))
        have HCL7 : Hid (Cls w7 w7.heap.size C cs) := Lib.hid (((HCL5.out.below HBW5.out).below hlow7).more (Nat.le_trans hszW hlow7.size))
        have HS7 := Lib.hid (solve_any V (by omega) cs C cc (l ++ [-1 - z % V]) A7 c7 w7 HMR.out (by
            rw [List.any_append, HFA.out, Bool.false_or]
            show (oddX V (-1 - z % V) || false) = false
            rw [Bool.or_false]
            exact oddX_no.2 ⟨by omega, by omega, by omega⟩) (fun x hx => by have := HMS.out x hx; omega) (by simp; omega) HCL7.out (by rw [i64s_append]; exact Vals.of_own HO7.out) hcc (by have := own_cap HO7.out; simp; omega))
        rw [show (l ++ [-1 - z % V]).length = l.length + 1 by simp] at HS7
        clear hg7 ho7 hlow7
        (refine hK.out _ _ (fun _ => ⟨HK7.out.cell 0, HK7.out.cell 1⟩) ?_; clear hK K; try simp only [Act.put, List.setIfInBounds_toArray, List.set_cons_zero, List.set_cons_succ])
        (refine wpSeq_fix rfl rfl ?_; intro o ho; simp only [List.getElem?_toArray, List.getElem?_cons_zero, List.getElem?_cons_succ, Option.some.injEq] at ho; subst ho; intro K hK)
        go_simp
        refine HS7.out.mono ?_
        rintro e w8 ⟨hb, ⟨rfl, _⟩ | ⟨g3, L3, rfl, _, _, _, hsat, hall⟩⟩
        rotate_left
        · exact (HNO.out _ hsat (fun a ha => hall a (List.mem_append_left _ ha))).elim
        have HK8 := Lib.hid (HK7.out.step hb)
        have HL8 := Lib.hid (HL7.out.step hb)
        clear hb HS7
        go_simp
        (refine hK.out _ _ (fun _ => ⟨HK8.out.cell 0, HK8.out.cell 1⟩) ?_; clear hK K; try simp only [Act.put, List.setIfInBounds_toArray, List.set_cons_zero, List.set_cons_succ])
        (refine wpSeq_mov rfl rfl ?_; intro o ho; simp only [List.getElem?_toArray, List.getElem?_cons_zero, List.getElem?_cons_succ, Option.some.injEq] at ho; subst ho; refine ⟨?_, Or.inl ⟨by rfl, fun W hSW => ?_⟩, ?_⟩; rotate_left; (focus (go_simp; first | done | with_reducible rfl)); try simp only [Act.put, List.setIfInBounds_toArray, List.set_cons_zero, List.set_cons_succ])
        (refine wpSeq_mov rfl rfl ?_; intro o ho; simp only [List.getElem?_toArray, List.getElem?_cons_zero, List.getElem?_cons_succ, Option.some.injEq] at ho; subst ho; refine ⟨?_, Or.inl ⟨by rfl, fun W hSW => ?_⟩, ?_⟩; rotate_left; (focus (go_simp; first | done | with_reducible rfl)); try simp only [Act.put, List.setIfInBounds_toArray, List.set_cons_zero, List.set_cons_succ])
        (refine wpSeq_mov rfl rfl ?_; intro o ho; simp only [List.getElem?_toArray, List.getElem?_cons_zero, List.getElem?_cons_succ, Option.some.injEq] at ho; subst ho; refine ⟨?_, Or.inl ⟨by rfl, fun W hSW => ?_⟩, ?_⟩; rotate_left; (focus (go_simp; first | done | with_reducible rfl)); try simp only [Act.put, List.setIfInBounds_toArray, List.set_cons_zero, List.set_cons_succ])
        (refine wpSeq_mov rfl rfl ?_; intro o ho; simp only [List.getElem?_toArray, List.getElem?_cons_zero, List.getElem?_cons_succ, Option.some.injEq] at ho; subst ho; refine ⟨?_, Or.inl ⟨by rfl, fun W hSW => ?_⟩, ?_⟩; rotate_left; (focus (go_simp; first | done | with_reducible rfl)); try simp only [Act.put, List.setIfInBounds_toArray, List.set_cons_zero, List.set_cons_succ])
        (refine wpSeq_mov rfl rfl ?_; intro o ho; simp only [List.getElem?_toArray, List.getElem?_cons_zero, List.getElem?_cons_succ, Option.some.injEq] at ho; subst ho; refine ⟨?_, Or.inl ⟨by rfl, fun W hSW => ?_⟩, ?_⟩; rotate_left; (focus (go_simp; first | done | with_reducible rfl)); try simp only [Act.put, List.setIfInBounds_toArray, List.set_cons_zero, List.set_cons_succ])
        (refine wpSeq_mov rfl rfl ?_; intro o ho; simp only [List.getElem?_toArray, List.getElem?_cons_zero, List.getElem?_cons_succ, Option.some.injEq] at ho; subst ho; refine ⟨?_, Or.inl ⟨by rfl, fun W hSW => ?_⟩, ?_⟩; rotate_left; (focus (go_simp; first | done | with_reducible rfl)); try simp only [Act.put, List.setIfInBounds_toArray, List.set_cons_zero, List.set_cons_succ])
        (refine wpSeq_mov rfl rfl ?_; intro o ho; simp only [List.getElem?_toArray, List.getElem?_cons_zero, List.getElem?_cons_succ, Option.some.injEq] at ho; subst ho; refine ⟨?_, Or.inl ⟨by rfl, fun W hSW => ?_⟩, ?_⟩; rotate_left; (focus (go_simp; first | done | with_reducible rfl)); try simp only [Act.put, List.setIfInBounds_toArray, List.set_cons_zero, List.set_cons_succ])
        refine wpSeq_done ?_
        go_wp2_with fail
        go_ret
        exact ⟨rfl, HL8.out.b⟩
  · have HSAT := Lib.hid hsat
    have HBL : Hid (BlkF w3 g 4 (bools L).toArray) := ⟨hbl⟩
    replace HCL2 := Lib.hid (HCL2.out.after hb)
    replace HL2 := Lib.hid (HL2.out.step hb); replace HK := Lib.hid (HK.out.step hb)
    replace c0 := HK.out.cell 0
    replace c1 := HK.out.cell 1
    subst hL
    clear hb hsat hbl hall hg
    go_wp2_with fail
    go_loopw [22, 23, 24] (fun s i _ wr => ∃ (j : Nat) (K : Option Addr) (ck : Nat), j ≤ L.length ∧ s = .slice K j ck ∧ i = .int .i64 j ∧ OwnF wr w3.heap.size 3 1 (.slice K j ck) j (i64s (allP L j)) ∧ Low w3 wr) (fun _ i _ _ => L.length - (intOf i).toNat)
    case atStart => exact ⟨0, none, 0, Nat.zero_le _, rfl, rfl, ⟨World.ownsRow_nil _ _ _ _⟩, Low.refl _⟩
    case round =>
      obtain ⟨j, K, ck, hj, rfl, rfl, hown, hlow⟩ := hrel
      have HO := Lib.hid hown
      have HLW := Lib.hid hlow
      obtain ⟨i0, hi0, hz0, hz1, hz2⟩ := info_parts intInfoK
      have hs := HLW.out.size
      clear hown hlow
      by_cases hjl : j < L.length
      · have hjl' : (j : Int) < (L.length : Int) := by omega
        obtain ⟨y, hy⟩ : ∃ y, L[j]? = some y := ⟨_, List.getElem?_eq_getElem hjl⟩
        have q1 : wr.cell? ⟨g, j, none⟩ = some (.bool y) := by
          rw [(HBL.out.step HLW.out.b).cell j, List.getElem?_toArray]
          exact bools_get hy
        have HGD : Hid (L.getD j false = y) := Lib.hid (by rw [List.getD_eq_getElem?_getD, hy]; rfl)
        clear hy
        cases y
        · have HAL : Hid ((if L.getD j false then (j : Int) + 1 else -((j : Int) + 1)) = -((j : Int) + 1)) := Lib.hid (by rw [HGD.out]; rfl)
          go_wp2_with (first | (at_builtin; refine wpList_append_vals _ rfl (.tmp 111) (.tmp 113) _ rfl w3.heap.size 3 i0 _ 1 8 Try.underlying25 hi0 hz0 hz1 hz2 rfl (by omega) (.slice K j ck) j (i64s (allP L j)) rfl (HO.out.p.alloc _) _ _ 1 1 [.int .i64 (-((j : Int) + 1))] rfl rfl (vals_new wr [.int .i64 (-((j : Int) + 1))] 3) (i64s_one [-((j : Int) + 1)]) (by unfold maxLen; omega) (by omega) (by simp; omega) ?_; intro v5 w5 hown5 hg5; have HO5 := Lib.hid hown5; have HL5 := Lib.hid ((HLW.out.step (stepA wr (.cells #[.int .i64 (-((j : Int) + 1))] 3))).grown hg5 (own_block HO.out.p)); clear hown5 hg5))
          go_roundw
          case rel =>
            obtain ⟨A6, c6, hv6, _⟩ := own_form HO5.out
            subst hv6
            refine ⟨j + 1, A6, c6, by omega, rfl, by go_num, ⟨?_⟩, HL5.out⟩
            rw [allP_succ, HAL.out, i64s_append]
            exact HO5.out
          case measure => simp [intOf]; omega
        · have HAL : Hid ((if L.getD j false then (j : Int) + 1 else -((j : Int) + 1)) = (j : Int) + 1) := Lib.hid (by rw [HGD.out]; rfl)
          go_wp2_with (first | (at_builtin; refine wpList_append_vals _ rfl (.tmp 111) (.tmp 113) _ rfl w3.heap.size 3 i0 _ 1 8 Try.underlying25 hi0 hz0 hz1 hz2 rfl (by omega) (.slice K j ck) j (i64s (allP L j)) rfl (HO.out.p.alloc _) _ _ 1 1 [.int .i64 ((j : Int) + 1)] rfl rfl (vals_new wr [.int .i64 ((j : Int) + 1)] 3) (i64s_one [(j : Int) + 1]) (by unfold maxLen; omega) (by omega) (by simp; omega) ?_; intro v5 w5 hown5 hg5; have HO5 := Lib.hid hown5; have HL5 := Lib.hid ((HLW.out.step (stepA wr (.cells #[.int .i64 ((j : Int) + 1)] 3))).grown hg5 (own_block HO.out.p)); clear hown5 hg5))
          go_roundw
          case rel =>
            obtain ⟨A6, c6, hv6, _⟩ := own_form HO5.out
            subst hv6
            refine ⟨j + 1, A6, c6, by omega, rfl, by go_num, ⟨?_⟩, HL5.out⟩
            rw [allP_succ, HAL.out, i64s_append]
            exact HO5.out
          case measure => simp [intOf]; omega
      · have hjl' : ¬ (j : Int) < (L.length : Int) := by omega
        have hje : j = L.length := by omega
        subst hje
        have HK3 := Lib.hid (HK.out.step HLW.out.b)
        have HL3 := Lib.hid (HL2.out.step HLW.out.b)
        have HBL3 := Lib.hid (HBL.out.step HLW.out.b)
        have HS3 := Lib.hid (solve_any L.length (by omega) cs C cc (allP L L.length) K ck wr HMR.out (allP_ok L) (fun x hx => by have := HMS.out x hx; omega) (by rw [allP_len]; omega) (HCL2.out.after HLW.out.b) (Vals.of_own HO.out.p) hcc (by rw [allP_len]; exact own_cap HO.out.p))
        rw [allP_len] at HS3
        clear c0 c1
        have c0 := HK3.out.cell 0
        have c1 := HK3.out.cell 1
        go_wp2_with fail
        refine HS3.out.mono ?_
        rintro e w5 ⟨hb, ⟨rfl, hno2⟩ | ⟨g5, L5, rfl, _, hbl5, hL5, _, hall5⟩⟩
        · exact (hno2 _ HSAT.out (allP_self L L.length)).elim
        obtain rfl := allP_eq hL5 hall5
        have HB5 : Hid (BlkF w5 g5 4 (bools L5).toArray) := ⟨hbl5⟩
        replace HK3 := Lib.hid (HK3.out.step hb); replace HL3 := Lib.hid (HL3.out.step hb); replace HBL3 := Lib.hid (HBL3.out.step hb)
        replace c0 := HK3.out.cell 0
        replace c1 := HK3.out.cell 1
        have HSM := Lib.hid (same15_any L5 (some ⟨g5, 0, none⟩) (some ⟨g, 0, none⟩) L5.length L5.length w5 (by omega) (vals_of_blk HB5.out.p) (vals_of_blk HBL3.out.p))
        clear hb hbl5 hL5 hall5 HS3
        go_wp2_with fail
        refine HSM.out.mono ?_
        rintro e w6 ⟨rfl, hb⟩
        replace HK3 := Lib.hid (HK3.out.step hb); replace HL3 := Lib.hid (HL3.out.step hb)
        replace c0 := HK3.out.cell 0
        replace c1 := HK3.out.cell 1
        clear hb HSM
        go_wp2_with fail
        go_ret
        exact ⟨rfl, HL3.out.b⟩
end Go.Proofs.Ytbkmgblijncjhaa
