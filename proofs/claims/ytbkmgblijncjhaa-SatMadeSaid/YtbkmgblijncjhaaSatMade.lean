/- Layer 15: SatMade. -/
import Derived.Test.YtbkmgblijncjhaaG7
import Derived.Test.YtbkmgblijncjhaaG8
set_option linter.unusedVariables false
set_option linter.unusedSimpArgs false
namespace Go.Proofs.Ytbkmgblijncjhaa
open Go.RowKit Go.Maps

set_option maxRecDepth 100000 in
set_option maxHeartbeats 4000000 in
theorem satMade_any (n : Int) (xs : List Int) (A : Option Addr) (c : Nat) (ys : List Int) (B : Option Addr) (d : Nat) (w : World) (hn : 0 ≤ n ∧ n ≤ 255) (hx : ∀ x ∈ xs, 0 ≤ x ∧ x ≤ 65535) (hc : xs.length ≤ c) (hcl : c ≤ 70368744177664) (hp : Vals w w.heap.size A (u16s xs)) (hy : ∀ x ∈ ys, 0 ≤ x ∧ x ≤ 255) (hd : ys.length ≤ d) (hdl : d ≤ 140737488355328) (hq : Vals w w.heap.size B (u8k ys)) :
    Calls Try.prog 4 #[.int .u8 n, .slice A xs.length c, .slice B ys.length d] w (Ret w (.bool true)) := by
  have hnot := @not_run Try.prog
  obtain ⟨n0, n1⟩ := hn
  have HP := Lib.hid hp
  have HQ := Lib.hid hq
  have HX : Hid (U16 xs) := Lib.hid hx
  have HY := Lib.hid hy
  have f0 : ∀ W : World, Calls Try.prog 10 #[] W (Ret W (.bool true)) := awake15_any
  have HAW := Lib.hid f0
  clear hp hq hx hy f0
  go_enter Try.func4, Try.ntmps4
  go_wp2_with fail
  refine (made15_any n xs A c _ n0 n1 HX.out (by omega) HP.out).mono ?_
  obtain ⟨V, hV⟩ : ∃ V, V = 1 + n % 9 := ⟨_, rfl⟩
  rw [← hV]
  have hV1 : 1 ≤ V := by omega
  have hV9 : V ≤ 9 := by omega
  have HML := Lib.hid (madeK_len V xs)
  have HMS := Lib.hid (madeK_small (V := V) (xs := xs) HX.out)
  have HFL := Lib.hid (fewK_len V ys)
  clear hV
  generalize madeK V xs = cs at HML HMS ⊢
  rintro e w1 ⟨C, cc, rfl, hcl1, hcc, hb⟩
  have HCL := Lib.hid hcl1
  have HL := Lib.hid ((Low.refl w).step hb)
  clear hb hcl1
  have HK := Lib.hid (BlkF.new w1 24 #[.int .i64 V, .slice C cs.length cc])
  have HL2 := Lib.hid (HL.out.step (stepA w1 (.cells #[.int .i64 V, .slice C cs.length cc] 24)))
  have HCL2 := Lib.hid (HCL.out.after (stepA w1 (.cells #[.int .i64 V, .slice C cs.length cc] 24)))
  have c0 := HK.out.cell 0
  have c1 := HK.out.cell 1
  clear HL HCL
  go_wp2_with fail
  refine (few_any V ys B d _ hV1 (by omega) HY.out (by omega) (HQ.out.after HL2.out.b)).mono ?_
  generalize fewK V ys = l at HFL ⊢
  rintro e w2 ⟨D, dd, rfl, hdd, hvl, hb⟩
  have HVL : Hid (ValsF w2 D (i64s l)) := Lib.hid ⟨hvl⟩
  replace HCL2 := Lib.hid (HCL2.out.after hb)
  replace HL2 := Lib.hid (HL2.out.step hb); replace HK := Lib.hid (HK.out.step hb)
  have HFLo := HFL.out
  have HMLo := HML.out
  replace c0 := HK.out.cell 0
  replace c1 := HK.out.cell 1
  clear hb hvl
  go_wp2_with fail
  refine (solve_told V cs C cc l D dd _ (.inl hV9) (by omega) (fun x hx => by have := HMS.out x hx; omega) (by omega) hcc hdd HCL2.out HVL.out.p).mono ?_
  rintro e w3 ⟨m, is, er, rfl, hb, ht⟩
  have HT := Lib.hid ht
  replace HL2 := Lib.hid (HL2.out.step hb); replace HK := Lib.hid (HK.out.step hb)
  clear hb ht c0 c1
  go_wp2_with fail
  refine (HAW.out _).mono ?_
  rintro e w4 ⟨rfl, hb⟩
  have HT2 := Lib.hid (HT.out _ hb)
  replace HL2 := Lib.hid (HL2.out.step hb); replace HK := Lib.hid (HK.out.step hb)
  have c0 := HK.out.cell 0
  have c1 := HK.out.cell 1
  clear hb HT
  go_wp2_with fail
  refine HT2.out.mono ?_
  rintro e w5 ⟨rfl, hb⟩
  replace HL2 := Lib.hid (HL2.out.step hb)
  clear hb HT2 c0 c1
  go_wp2_with fail
  go_ret
  exact ⟨rfl, HL2.out.b⟩
end Go.Proofs.Ytbkmgblijncjhaa
