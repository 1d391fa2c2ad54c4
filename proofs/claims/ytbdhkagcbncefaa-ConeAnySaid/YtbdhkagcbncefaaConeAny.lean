/- ConeAny's walk. -/
import Derived.Test.YtbdhkagcbncefaaG6
set_option linter.unusedVariables false
set_option linter.unusedSimpArgs false
namespace Go.Proofs.Ytbdhkagcbncefaa
open Go.RowKit Go.Maps

set_option maxRecDepth 100000 in
set_option maxHeartbeats 4000000 in
theorem coneAny_any (to : Gr) (A : Option Addr) (c : Nat) (fr : Gr) (A2 : Option Addr) (c2 : Nat) (l : Int) (by_ : List Int) (A3 : Option Addr) (c3 : Nat) (input : Int) (v : Bool) (w : World) (hto : GOk to) (hc : to.as.length ≤ c) (hpt : Prs w w.heap.size A to.as) (hfr : GOk fr) (hc2 : fr.as.length ≤ c2) (hpf : Prs w w.heap.size A2 fr.as)
    (hl : -9223372036854775808 ≤ l ∧ l ≤ 9223372036854775807) (hby : ∀ y ∈ by_, -9223372036854775808 ≤ y ∧ y ≤ 9223372036854775807) (hbl : by_.length ≤ c3) (hbc : c3 ≤ 17592186044416) (hv : Vals w w.heap.size A3 (by_.map (.int .i64 ·))) (hi : -9223372036854775808 ≤ input ∧ input ≤ 9223372036854775807) :
    Calls Try.prog 20 #[.agg #[.int .i64 to.n, .slice A to.as.length c], .agg #[.int .i64 fr.n, .slice A2 fr.as.length c2], .int .i64 l, .slice A3 by_.length c3, .int .i64 input, .bool v] w (Ret w (.bool true)) := by
  have hnot := @not_run Try.prog
  have htl : to.as.length ≤ 8796093022208 := hto.2.1
  have hfl : fr.as.length ≤ 8796093022208 := hfr.2.1
  have hv' : Vals w w.heap.size A3 (i64s by_) := hv
  have HS := Lib.hid (fun (W : World) (h : Low w W) => same3_any to fr l by_ input v A A2 A3 c c2 c3 W hto hfr hl.2 hc hc2 (hpt.after h.b) (hpf.after h.b) (fun x hx => (hby x hx).2) (by omega) (hv'.after h.b) hi)
  have HT : Hid (GBox ((w.alloc (.cells #[.int .i64 to.n, .slice A to.as.length c] 24)).alloc (.cells #[.int .i64 fr.n, .slice A2 fr.as.length c2] 24)) w.heap.size to A c) := (GBox.new hc hpt).alloc _
  have HF : Hid (GBox ((w.alloc (.cells #[.int .i64 to.n, .slice A to.as.length c] 24)).alloc (.cells #[.int .i64 fr.n, .slice A2 fr.as.length c2] 24)) (w.heap.size + 1) fr A2 c2) := by
    have h := GBox.new (w := w.alloc (.cells #[.int .i64 to.n, .slice A to.as.length c] 24)) hc2 (hpf.after (stepA _ _))
    rw [World.size_alloc] at h
    exact h
  have HL := Lib.hid ((Low.refl w).step (step2 (stepA w (.cells #[.int .i64 to.n, .slice A to.as.length c] 24)) (stepA _ (.cells #[.int .i64 fr.n, .slice A2 fr.as.length c2] 24))))
  have c0 := HT.out.c0
  have c1 := HT.out.c1
  have d0 := HF.out.c0
  have d1 := HF.out.c1
  clear hto hfr hpt hpf hby hv hv' hl hi
  by_cases h1 : to.as.length ≤ 60
  · have h1' : ¬ ((60 : Int) < (to.as.length : Int)) := by omega
    by_cases h2 : fr.as.length ≤ 60
    · have h2' : ¬ ((60 : Int) < (fr.as.length : Int)) := by omega
      by_cases h3 : by_.length ≤ 60
      · have h3' : ¬ ((60 : Int) < (by_.length : Int)) := by omega
        clear h1 h2 h3
        go_enter Try.func20, Try.ntmps20
        go_wp2_with fail
        refine (awake3_any _).mono ?_
        rintro e w2 ⟨rfl, hb⟩
        replace HL := Lib.hid (HL.out.step hb); replace HT := Lib.hid (HT.out.step hb); replace HF := Lib.hid (HF.out.step hb)
        clear hb c0 c1 d0 d1
        have c0 := HT.out.c0
        have c1 := HT.out.c1
        have d0 := HF.out.c0
        have d1 := HF.out.c1
        go_wp2_with fail
        refine (HS.out _ HL.out).mono ?_
        rintro e w3 ⟨rfl, hb⟩
        go_wp2_with fail
        go_ret
        exact ⟨rfl, (HL.out.step hb).b⟩
      · have h3' : (60 : Int) < (by_.length : Int) := by omega
        clear h3
        go_enter Try.func20, Try.ntmps20
        go_wp2_with fail
        refine (awake3_any _).mono ?_
        rintro e w2 ⟨rfl, hb⟩
        go_wp2_with fail
        go_ret
        exact ⟨rfl, (HL.out.step hb).b⟩
    · have h2' : (60 : Int) < (fr.as.length : Int) := by omega
      clear h2
      go_enter Try.func20, Try.ntmps20
      go_wp2_with fail
      refine (awake3_any _).mono ?_
      rintro e w2 ⟨rfl, hb⟩
      go_wp2_with fail
      go_ret
      exact ⟨rfl, (HL.out.step hb).b⟩
  · have h1' : (60 : Int) < (to.as.length : Int) := by omega
    clear h1
    go_enter Try.func20, Try.ntmps20
    go_wp2_with fail
    refine (awake3_any _).mono ?_
    rintro e w2 ⟨rfl, hb⟩
    go_wp2_with fail
    go_ret
    exact ⟨rfl, (HL.out.step hb).b⟩
end Go.Proofs.Ytbdhkagcbncefaa
