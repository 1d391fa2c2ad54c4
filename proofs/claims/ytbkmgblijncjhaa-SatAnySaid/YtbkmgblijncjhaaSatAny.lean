/- Layer 15: SatAny. -/
import Derived.Test.YtbkmgblijncjhaaG7
set_option linter.unusedVariables false
set_option linter.unusedSimpArgs false
namespace Go.Proofs.Ytbkmgblijncjhaa
open Go.RowKit Go.Maps

set_option maxRecDepth 100000 in
set_option maxHeartbeats 4000000 in
theorem satAny_any (v : Int) (cs : List (List Int)) (A : Option Addr) (c : Nat) (l : List Int) (B : Option Addr) (d : Nat) (w : World) (hcx : ∀ x ∈ cs, x.length ≤ 140737488355328) (hcl : cs.length ≤ 140737488355328) (hp : Cls w w.heap.size A cs) (hc : cs.length ≤ c) (hd : l.length ≤ d) (hdl : d ≤ 17592186044416) (hq : Vals w w.heap.size B (i64s l)) :
    Calls Try.prog 3 #[.agg #[.int .i64 v, .slice A cs.length c], .slice B l.length d] w (Ret w (.bool true)) := by
  have hnot := @not_run Try.prog
  have HL := Lib.hid ((Low.refl w).step (stepA w (.cells #[.int .i64 v, .slice A cs.length c] 24)))
  have HK := Lib.hid (BlkF.new w 24 #[.int .i64 v, .slice A cs.length c])
  have HP := Lib.hid hp
  have HQ := Lib.hid hq
  have HCX := Lib.hid hcx
  have c0 := HK.out.cell 0
  have c1 := HK.out.cell 1
  have f0 : ∀ W : World, Calls Try.prog 10 #[] W (Ret W (.bool true)) := awake15_any
  have HAW := Lib.hid f0
  clear hp hq hcx f0
  by_cases h40 : (cs.length : Int) ≤ 40
  · have h40' : ¬ (40 : Int) < (cs.length : Int) := by omega
    by_cases h20 : (l.length : Int) ≤ 20
    · have h20' : ¬ (20 : Int) < (l.length : Int) := by omega
      by_cases hv : v ≤ 9 ∨ 2000 < v
      · have HV := Lib.hid hv
        have hv9 : ¬ 9 < v ∨ (9 < v ∧ ¬ v ≤ 2000) := by omega
        clear hv
        rcases hv9 with hv9 | ⟨hv9, hv20⟩
        all_goals
          go_enter Try.func3, Try.ntmps3
          go_wp2_with fail
          obtain ⟨W0, hW0⟩ : ∃ W0, w.alloc (.cells #[.int .i64 v, .slice A cs.length c] 24) = W0 := ⟨_, rfl⟩
          rw [hW0] at HL HK c0 c1 ⊢
          clear hW0
          go_loopw [5] (fun s wr => ∃ k : Nat, k ≤ cs.length ∧ s = .int .i64 k ∧ Hid (∀ i x, i < k → cs[i]? = some x → x.length ≤ 10) ∧ wr = W0) (fun s _ => cs.length - (intOf s).toNat)
          case atStart => exact ⟨0, Nat.zero_le _, rfl, fun i x hi => by omega, rfl⟩
          case round =>
            obtain ⟨k, hk, rfl, hall, rfl⟩ := hrel
            by_cases hlt : k < cs.length
            · have hlt' : (k : Int) < (cs.length : Int) := by omega
              obtain ⟨x, hxk⟩ : ∃ x, cs[k]? = some x := ⟨_, List.getElem?_eq_getElem hlt⟩
              obtain ⟨b, o, D, d', rfl, _, q1, _, _⟩ := (HP.out.after HL.out.b) k _ hxk
              have HXK := Lib.hid hxk
              clear hxk
              by_cases hx : (x.length : Int) ≤ 10
              · have hx' : ¬ (10 : Int) < (x.length : Int) := by omega
                go_wp2_with fail
                go_roundw
                case rel =>
                  refine ⟨k + 1, by omega, by go_num, fun i x' hi hx' => ?_, trivial⟩
                  rcases Nat.lt_or_ge i k with h | h
                  · exact hall.out i x' h hx'
                  · obtain rfl : i = k := by omega
                    rw [HXK.out] at hx'
                    cases hx'
                    omega
                case measure => simp [intOf]; omega
              · have hx' : (10 : Int) < (x.length : Int) := by omega
                go_wp2_with fail
                refine (HAW.out _).mono ?_
                rintro e w2 ⟨rfl, hb⟩
                replace HL := Lib.hid (HL.out.step hb)
                clear hb
                go_wp2_with fail
                go_ret
                exact ⟨rfl, HL.out.b⟩
            · have hlt' : ¬ ((k : Int) < (cs.length : Int)) := by omega
              have HLS : Hid (∀ x ∈ cs, x.length ≤ 1000000) := Lib.hid fun x hx => by
                obtain ⟨i, hi⟩ := List.getElem?_of_mem hx
                have := hall.out i x (by have := (List.getElem?_eq_some_iff.1 hi).1; omega) hi
                omega
              go_wp2_with fail
              refine (solve_told v cs A c l B d _ HV.out (by omega) HLS.out (by omega) hc hd (HP.out.after HL.out.b) (HQ.out.after HL.out.b)).mono ?_
              rintro e w2 ⟨m, is, er, rfl, hb, ht⟩
              have HT := Lib.hid ht
              replace HL := Lib.hid (HL.out.step hb); replace HK := Lib.hid (HK.out.step hb)
              clear hb ht c0 c1
              go_wp2_with fail
              refine (HAW.out _).mono ?_
              rintro e w3 ⟨rfl, hb⟩
              have HT2 := Lib.hid (HT.out _ hb)
              replace HL := Lib.hid (HL.out.step hb); replace HK := Lib.hid (HK.out.step hb)
              have c0 := HK.out.cell 0
              have c1 := HK.out.cell 1
              clear hb HT
              go_wp2_with fail
              refine HT2.out.mono ?_
              rintro e w4 ⟨rfl, hb⟩
              replace HL := Lib.hid (HL.out.step hb)
              clear hb HT2 c0 c1
              go_wp2_with fail
              go_ret
              exact ⟨rfl, HL.out.b⟩
      · have v9 : 9 < v := by omega
        have v20 : v ≤ 2000 := by omega
        go_enter Try.func3, Try.ntmps3
        go_wp2_with fail
        refine (HAW.out _).mono ?_
        rintro e w2 ⟨rfl, hb⟩
        replace HL := Lib.hid (HL.out.step hb)
        clear hb
        go_wp2_with fail
        go_ret
        exact ⟨rfl, HL.out.b⟩
    · have h20' : (20 : Int) < (l.length : Int) := by omega
      go_enter Try.func3, Try.ntmps3
      go_wp2_with fail
      refine (HAW.out _).mono ?_
      rintro e w2 ⟨rfl, hb⟩
      replace HL := Lib.hid (HL.out.step hb)
      clear hb
      go_wp2_with fail
      go_ret
      exact ⟨rfl, HL.out.b⟩
  · have h40' : (40 : Int) < (cs.length : Int) := by omega
    go_enter Try.func3, Try.ntmps3
    go_wp2_with fail
    refine (HAW.out _).mono ?_
    rintro e w2 ⟨rfl, hb⟩
    replace HL := Lib.hid (HL.out.step hb)
    clear hb
    go_wp2_with fail
    go_ret
    exact ⟨rfl, HL.out.b⟩
end Go.Proofs.Ytbkmgblijncjhaa
