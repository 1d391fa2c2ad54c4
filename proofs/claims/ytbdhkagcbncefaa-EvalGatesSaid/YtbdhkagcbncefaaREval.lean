/- Layer 2, the document's: whether a literal is so. -/
import Derived.Test.YtbdhkagcbncefaaRAll
namespace Go.Proofs.Ytbdhkagcbncefaa
open Go.RowKit Go.Maps

theorem lit_vals {g : Gr} {xs : List Bool} {l : Int} (ha : 0 < (allG g xs).length) (hl : litB g l = true) : 0 ≤ l ∧ l / 2 < ((allG g xs).length : Int) ∧ l ≤ 4001 := by
  unfold allG at ha ⊢
  split at ha
  · rename_i h
    rw [if_pos h]
    simp only [Bool.and_eq_true, decide_eq_true_eq] at h
    obtain ⟨hr, hn⟩ := h
    obtain ⟨a, b, c, d⟩ := (litB_iff g l).1 hl
    obtain ⟨h0, h1, h2, h3⟩ := (size_iff g).1 (right_size hr)
    rw [valsFrom_length]
    simp only [List.length_cons]
    omega
  · simp at ha

set_option maxRecDepth 100000 in
set_option maxHeartbeats 2000000 in
theorem reval_any (g : Gr) (l : Int) (xs : List Bool) (A B : Option Addr) (c d : Nat) (w : World) (hg : GOk g) (hc : g.as.length ≤ c) (hp : Prs w w.heap.size A g.as) (hd : xs.length ≤ d) (hl : xs.length ≤ 140737488355328) (hx : Vals w w.heap.size B (bools xs)) (hll : l ≤ 9223372036854775807) :
    Calls Try.prog 32 #[.agg #[.int .i64 g.n, .slice A g.as.length c], .int .i64 l, .slice B xs.length d] w (Ret w (.bool (evalG g l xs))) := by
  have HX := Lib.hid hx
  have HP := Lib.hid hp
  have HOK := Lib.hid hg
  have hgl : g.as.length ≤ 8796093022208 := hg.2.1
  have H0 := Lib.hid (Boxed.begin_ (w := w) (g := g) (A := A) (c := c))
  clear hp hx hg
  go_enter Try.func32, Try.ntmps32
  go_wp2_with fail
  refine (rall_any g xs A B c d _ HOK.out hc (H0.out.prs HP.out) hd hl (H0.out.vals HX.out)).mono ?_
  rintro e w1 ⟨A1, c1, rfl, hc1, hv1, hb1⟩
  have H1 := Lib.hid (H0.out.step hb1)
  have HV1 := Lib.hid hv1
  clear hb1 hv1
  have c0 := H1.out.c0
  have c1 := H1.out.c1
  by_cases hz : 0 < (allG g xs).length
  · have hz' : (0 : Int) < ((allG g xs).length : Int) := by omega
    go_wp2_with fail
    refine (rlit_any g l A c _ hgl hll).mono ?_
    rintro e w2 ⟨rfl, hb2⟩
    have H2 := Lib.hid (H1.out.step hb2)
    have HV2 := Lib.hid (HV1.out.after hb2)
    clear hb2 c0 c1
    cases hlt : litB g l
    · have HE : Hid (evalG g l xs = false) := by show evalG g l xs = false; unfold evalG; rw [hlt]; simp
      go_wp2_with fail
      go_ret
      exact Ret.mk (by rw [HE.out]; rfl) H2.out.low
    · have HE : Hid (evalG g l xs = bitB (allG g xs) l) := by show evalG g l xs = _; unfold evalG; rw [hlt, decide_eq_true hz]; simp
      obtain ⟨q0, q1, q2⟩ := lit_vals hz hlt
      have Q1 := Lib.hid q1
      clear q1
      go_wp2_with fail
      refine (rbit_any (allG g xs) l A1 _ _ q0 Q1.out hll HV2.out).mono ?_
      rintro e w3 ⟨rfl, hb3⟩
      have H3 := Lib.hid (H2.out.step hb3)
      clear hb3
      go_wp2_with fail
      go_ret
      exact Ret.mk (by rw [HE.out]; rfl) H3.out.low
  · have HE : Hid (evalG g l xs = false) := by show evalG g l xs = false; unfold evalG; rw [decide_eq_false hz]; rfl
    have hz' : ¬ ((0 : Int) < ((allG g xs).length : Int)) := by omega
    go_wp2_with fail
    go_ret
    exact Ret.mk (by rw [HE.out]; rfl) H1.out.low
end Go.Proofs.Ytbdhkagcbncefaa
