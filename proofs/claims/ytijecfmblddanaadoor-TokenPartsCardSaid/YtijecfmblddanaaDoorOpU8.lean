/- A slice of bytes opened. -/
import Derived.Test.YtijecfmblddanaaDoorOpenG
namespace Go.Proofs.YtijecfmblddanaaDoor
open Go.ChangeShapes Go.WideShapes Go.ChangeAt Go.RowKit Go.Joins Go.Deep
section
variable {H : Type} {enc : TypeId × Value → H} {W : World} {v : Value} {d : DataW H} {p : List MemPlace} {base : Nat}

set_option maxRecDepth 100000 in
theorem open_u8s (hv : Value.okWide Tryd.prog W .any base 24 v) (h : DataW.Trod enc Tryd.prog W 0 (fun _ => true) true 24 v d p) (hz : ∀ n ∈ d.weights Tryd.prog 24, n ≤ reachBytes) :
    ∃ (xs : List Int) (A : Option Addr) (c : Nat), v = .slice A xs.length c ∧ (∀ x ∈ xs, 0 ≤ x ∧ x ≤ 255) ∧ xs.length ≤ c ∧ c ≤ 140737488355328 ∧ Vals W W.heap.size A (xs.map (.int .u8 ·)) := by
  obtain ⟨xs, A, c, h1, h2, h3, h4, h5⟩ := open_ones (.int .u8 ·) (fun x => 0 ≤ x ∧ x ≤ 255) Tryd.underlying24 (by kernel_rfl) (fun n u y hy => by
    obtain ⟨k, hk, _, wk⟩ := DataW.trod_int Tryd.underlying5 hy
    simp at hk
    exact ⟨k, hk, bounds_u8 wk⟩) hv h hz
  have hbt : Tryd.prog.bytesOf 5 = 1 := by kernel_rfl
  rw [hbt] at h4
  exact ⟨xs, A, c, h1, h2, h3, by unfold reachBytes at h4; omega, h5⟩
end
end Go.Proofs.YtijecfmblddanaaDoor
