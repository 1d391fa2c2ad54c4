/- Layer 3, the document's: how many gates stand below a literal. -/
import Derived.Test.YtbdhkagcbncefaaG4
import Derived.Test.YtbdhkagcbncefaaPCone2
import Derived.Test.YtbdhkagcbncefaaG3
set_option linter.unusedVariables false
set_option linter.unusedSimpArgs false
namespace Go.Proofs.Ytbdhkagcbncefaa
open Go.RowKit Go.Maps

theorem gatesG_no1 {g : Gr} {l : Int} (h : rightB g = false) : gatesG g l = 0 := by unfold gatesG; rw [h]; rfl
theorem gatesG_no2 {g : Gr} {l : Int} (h : litB g l = false) : gatesG g l = 0 := by unfold gatesG; rw [h, Bool.and_false]; rfl
theorem gatesG_yes {g : Gr} {l : Int} (h : rightB g = true) (h' : litB g l = true) : gatesG g l = gatesAt g l g.as.length := by unfold gatesG; rw [h, h']; rfl

set_option maxRecDepth 100000 in
set_option maxHeartbeats 2000000 in
theorem rgates_any (g : Gr) (l : Int) (A : Option Addr) (c : Nat) (w : World) (hg : GOk g) (hl : l ≤ 9223372036854775807) (hp : Prs w w.heap.size A g.as) :
    Calls Try.prog 54 #[.agg #[.int .i64 g.n, .slice A g.as.length c], .int .i64 l] w (Ret w (.int .i64 (gatesG g l))) := by
  have hnot := @not_run Try.prog
  have hgl : g.as.length ≤ 8796093022208 := hg.2.1
  have HP := Lib.hid hp
  have HG := Lib.hid hg
  have H0 := Lib.hid (Boxed.begin_ (w := w) (g := g) (A := A) (c := c))
  have c0 := H0.out.c0
  have c1 := H0.out.c1
  clear hp hg
  go_enter Try.func54, Try.ntmps54
  go_wp2_with fail
  refine (rright_any g A c _ HG.out (H0.out.prs HP.out)).mono ?_
  rintro e w1 ⟨rfl, hb1⟩
  have H1 := Lib.hid (H0.out.step hb1)
  clear hb1 H0 c0 c1
  have c0 := H1.out.c0
  have c1 := H1.out.c1
  cases hr : rightB g
  · have HE : Hid (gatesG g l = 0) := gatesG_no1 hr
    clear hr
    go_wp2_with fail
    go_ret
    exact Ret.mk (by rw [HE.out]; rfl) H1.out.low
  · have HR := Lib.hid hr
    clear hr
    go_wp2_with fail
    refine (rlit_any g l A c _ hgl hl).mono ?_
    rintro e w2 ⟨rfl, hb2⟩
    have H2 := Lib.hid (H1.out.step hb2)
    clear hb2 H1 c0 c1
    have c0 := H2.out.c0
    have c1 := H2.out.c1
    cases hlb : litB g l
    · have HE : Hid (gatesG g l = 0) := gatesG_no2 hlb
      clear hlb
      go_wp2_with fail
      go_ret
      exact Ret.mk (by rw [HE.out]; rfl) H2.out.low
    · have HE : Hid (gatesG g l = gatesAt g l g.as.length) := gatesG_yes HR.out hlb
      obtain ⟨g0, g1, g2, g3⟩ := (size_iff g).1 (right_size HR.out)
      have HL := Lib.hid hlb
      have hbl : ((belowG g l).length : Int) = g.n + 1 + g.as.length := by rw [belowG_length]; unfold Gr.vars; omega
      clear hlb
      go_wp2_with fail
      refine (rbelow_any g l A c _ HR.out HL.out (H2.out.prs HP.out)).mono ?_
      rintro e w3 ⟨B, d, rfl, hd, hv, hb3⟩
      have H3 := Lib.hid (H2.out.step hb3)
      have HV : Hid (ValsF w3 B (bools (belowG g l))) := ⟨hv⟩
      have HBL := Lib.hid hbl
      clear hb3 hv H2 c0 c1 hbl
      have c0 := H3.out.c0
      have c1 := H3.out.c1
      go_wp2_with fail
      go_loopw [6, 7] (fun n i wr => ∃ k : Nat, k ≤ g.as.length ∧ n = .int .i64 (gatesAt g l k) ∧ i = .int .i64 (g.n + 1 + k) ∧ Low w3 wr) (fun _ i _ => (g.n + 1 + g.as.length - intOf i).toNat)
      case atStart => exact ⟨0, Nat.zero_le _, rfl, by simp, Low.refl _⟩
      case round =>
        obtain ⟨k, hk, rfl, rfl, hlow⟩ := hrel
        have HW := Lib.hid hlow
        clear hlow
        have hga := gatesAt_le g l k
        by_cases hlt : k < g.as.length
        · have hlt' : g.n + 1 + (k : Int) < ((belowG g l).length : Int) := by rw [HBL.out]; omega
          have i1 : 0 ≤ g.n + 1 + (k : Int) := by omega
          obtain ⟨bit, hbit⟩ : ∃ y, (belowG g l)[(g.n + 1 + (k : Int)).toNat]? = some y := ⟨_, List.getElem?_eq_getElem (by omega)⟩
          obtain ⟨b1, o1, rfl, hb1, hq1⟩ := (HV.out.step HW.out.b).p _ _ (bools_get hbit)
          cases bit
          · have HSN : Hid (gatesAt g l (k + 1) = gatesAt g l k) := gatesAt_no hbit
            clear hbit
            go_wp2_with fail
            go_roundw
            case rel => exact ⟨k + 1, by omega, by rw [HSN.out], by go_num, HW.out⟩
            case measure => simp [intOf]; omega
          · have HSN : Hid (gatesAt g l (k + 1) = gatesAt g l k + 1) := gatesAt_yes hbit
            clear hbit
            go_wp2_with fail
            go_roundw
            case rel => exact ⟨k + 1, by omega, by rw [HSN.out]; go_num, by go_num, HW.out⟩
            case measure => simp [intOf]; omega
        · obtain rfl : k = g.as.length := by omega
          have hlt' : ¬ (g.n + 1 + (g.as.length : Int) < ((belowG g l).length : Int)) := by rw [HBL.out]; omega
          go_wp2_with fail
          go_ret
          exact Ret.mk (by rw [HE.out]; rfl) (H3.out.step HW.out.b).low
end Go.Proofs.Ytbdhkagcbncefaa
