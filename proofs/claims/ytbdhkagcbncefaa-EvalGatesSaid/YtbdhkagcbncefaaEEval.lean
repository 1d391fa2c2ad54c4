/- Layer 2: whether a literal is so; the lowest bits of a number; two lists. -/
import Derived.Test.YtbdhkagcbncefaaEAll
import Derived.Test.YtbdhkagcbncefaaPSem
namespace Go.Proofs.Ytbdhkagcbncefaa
open Go.RowKit Go.Maps

set_option maxRecDepth 100000 in
set_option maxHeartbeats 2000000 in
theorem eEval_any (g : Gr) (l : Int) (xs : List Bool) (A B : Option Addr) (c d : Nat) (w : World) (hg : GOk g) (hc : g.as.length ≤ c) (hp : Prs w w.heap.size A g.as) (hd : xs.length ≤ d) (hl : xs.length ≤ 140737488355328) (hx : Vals w w.heap.size B (bools xs)) (hll : l ≤ 9223372036854775807) :
    Calls Try.prog 31 #[.agg #[.int .i64 g.n, .slice A g.as.length c], .int .i64 l, .slice B xs.length d] w (Ret w (.bool (evalG g l xs))) := by
  have HX := Lib.hid hx
  have HP := Lib.hid hp
  have HOK := Lib.hid hg
  have hgl : g.as.length ≤ 8796093022208 := hg.2.1
  have HB := Lib.hid (Boxed.begin_ (w := w) (g := g) (A := A) (c := c))
  clear hp hx hg
  go_enter Try.func31, Try.ntmps31
  go_wp2_with fail
  refine (eall_any g xs A B c d _ HOK.out hc (HB.out.prs HP.out) hd hl (HB.out.vals HX.out)).mono ?_
  rintro e w1 ⟨A1, c1, rfl, hc1, hv1, hb⟩
  replace HB := Lib.hid (HB.out.step hb)
  have HV : Hid (ValsF w1 A1 (bools (allG g xs))) := ⟨hv1⟩
  clear hb hv1
  have c0 := HB.out.c0
  have c1 := HB.out.c1
  by_cases hz : 0 < (allG g xs).length
  · have hz' : (0 : Int) < ((allG g xs).length : Int) := by omega
    go_wp2_with fail
    refine (lit_any g l A c _ hgl hll).mono ?_
    rintro e w2 ⟨rfl, hb⟩
    replace HB := Lib.hid (HB.out.step hb); replace HV := Lib.hid (HV.out.step hb)
    clear hb c0 c1
    cases hlt : litB g l
    · have HE : Hid (evalG g l xs = false) := by show evalG g l xs = false; unfold evalG; rw [hlt]; simp
      go_wp2_with fail
      go_ret
      exact Ret.mk (by rw [HE.out]; first | done | rfl) HB.out.low
    · have HE : Hid (evalG g l xs = bitB (allG g xs) l) := by show evalG g l xs = _; unfold evalG; rw [hlt, decide_eq_true hz]; simp
      obtain ⟨q0, q1, q2⟩ := lit_vals hz hlt
      obtain ⟨b, o, x, rfl, _, q, e⟩ := bools_at HV.out.p q0 q1
      have HQ := Lib.hid q1
      have HE2 := Lib.hid e
      have hd : 0 ≤ l / 2 := by omega
      clear q1 e
      go_wp2_with fail
      go_ret
      refine Ret.mk ?_ HB.out.low
      show Value.bool (!(x == (bits .and .i64 l 1 == 1))) = _
      rw [HE.out, HE2.out, and_one l q0 hll, odd_beq]
      rfl
  · have HE : Hid (evalG g l xs = false) := by show evalG g l xs = false; unfold evalG; rw [decide_eq_false hz]; rfl
    have hz' : ¬ ((0 : Int) < ((allG g xs).length : Int)) := by omega
    go_wp2_with fail
    go_ret
    exact Ret.mk (by rw [HE.out]; first | done | rfl) HB.out.low

end Go.Proofs.Ytbdhkagcbncefaa
