/- A string opened. -/
import Derived.ChangeMaps5
import Derived.Test.YtijecfmblddanaaDoorG1
namespace Go.Proofs.YtijecfmblddanaaDoor
open Go.ChangeShapes Go.WideShapes Go.ChangeAt Go.RowKit Go.Joins Go.Deep Go.ChangeMaps
section
variable {H : Type} {enc : TypeId × Value → H} {W : World} {v : Value} {d : DataW H} {p : List MemPlace} {base : Nat}

set_option maxRecDepth 100000 in
theorem open_str (hv : Value.okWide Tryd.prog W .any base 9 v) (h : DataW.Trod enc Tryd.prog W 0 (fun _ => true) true 9 v d p) (hz : ∀ n ∈ d.weights Tryd.prog 9, n ≤ reachBytes) :
    ∃ s : ByteArray, v = .string s ∧ s.size ≤ 140737488355328 := by
  obtain ⟨s, rfl, rfl, _, _⟩ := open_string Tryd.underlying9 hv h
  refine ⟨s, rfl, ?_⟩
  have := hz s.size (by simp [DataW.weights])
  unfold reachBytes at this
  omega
end
end Go.Proofs.YtijecfmblddanaaDoor
