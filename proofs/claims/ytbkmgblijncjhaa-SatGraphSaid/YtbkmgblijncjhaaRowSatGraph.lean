/- Proved: the law SatGraph returns true for every input its row admits, and each argument reads behind the call as before. No conditions. -/
import Derived.Test.YtbkmgblijncjhaaG1
import Derived.Test.YtbkmgblijncjhaaK10
namespace Go.Proofs.Ytbkmgblijncjhaa
open Go.ChangeShapes Go.WideShapes Go.ChangeAt Go.RowKit

namespace SatGraph
set_option maxRecDepth 100000 in
theorem lifted (os : Os) (started : os.Started) (H : Type) (enc : TypeId × Value → H) :
    ReturnsInHanded {} Try.checked os 5 .any (Rows.satGraphSpec.pre6 enc Try.prog Try.f5 Rows.satGraphRow.domain false) (Rows.satGraphSpec.post enc Try.prog Try.f5 false true false false) := by
  refine returnsInHanded_of_change_sized (C := Try.checked) ownK started (by kernel_rfl) Try.func5
    (ChangeSpec.witness6 (enc := enc) (C := Try.checked) false ⟨#[], #[.int .u8 0, .slice none 0 0], []⟩ 8 (by kernel_rfl) (by kernel_rfl) (by kernel_rfl) (by kernel_rfl)) ?_
  intro W base args ds gs before hval0 hW _ hz _
  have hval : ∀ (j : Nat) t v, Try.f5.params[j]? = some t → args[j]? = some v → Value.okWide Try.prog W .any base t v := hval0
  have hW' := hW
  obtain ⟨p, q, hA0, hV, rfl, hfz, hnd⟩ := hW
  have hA : DataW.TrodAll enc Try.prog W 0 (fun _ => true) true Try.f5.params.toList args.toList ds p := hA0
  have hz' : ∀ n ∈ DataW.weightsEach Try.prog (Try.f5.params.toList ++ Rows.satGraphSpec.plain.varTypes Try.prog) (ds ++ gs), n ≤ reachBytes := fun n hn => by simpa using List.all_eq_true.1 hz n hn
  rw [Try.params5] at hA hval hz'
  clear hval0 hA0
  obtain ⟨v0, vs0, d0, ds0, p0, ps0, hx0, rfl, rfl, h0, hr0⟩ := trodAll_cons hA
  obtain ⟨v1, vs1, d1, ds1, p1, ps1, hx1, rfl, rfl, h1, hr1⟩ := trodAll_cons hr0
  obtain ⟨rfl, rfl, rfl⟩ := trodAll_nil hr1
  obtain rfl : args = #[v0, v1] := by cases args; simp_all
  obtain ⟨x0, rfl, _, _, q0⟩ := open_int Try.underlying5 (hval 0 _ v0 rfl rfl) h0
  obtain ⟨x1, A1, c1, rfl, q1, r1, s1, t1⟩ := open_u16s (hval 1 _ v1 rfl rfl) h1 (fun n hn => hz' n (by simp [DataW.weightsEach, hn]))
  refine (satGraph_any x0 x1 A1 c1 W (bounds_u8 q0) q1 r1 s1 t1).mono fun e W' ⟨he, hb⟩ => ?_
  exact ⟨_, he, post_true laidOut rfl (by kernel_rfl) Try.underlying4 (fun ds h => by
    match ds, h with
    | [_, _], _ => rfl) (by
    rw [Try.params5]
    exact of_decide_eq_true (by kernel_rfl)) hW' hb⟩

theorem closed : joinedFacts Try.pinned.checked.prog 5 Try.f5 Rows.satGraphSpec Rows.satGraphRow = true := by
  unfold joinedFacts
  rw [pin_enter, pin_lifts, pin_make]
  refine Eq.trans (b := true) ?_ rfl
  kernel_rfl

theorem proved : Rows.SatGraphSaid :=
  OpenClaim.holds_of_wide 5 Try.f5 rfl rfl rfl rfl rfl rfl rfl ⟨rfl, rfl, rfl, rfl, rfl⟩ rfl rfl rfl rfl rfl
    (by kernel_rfl) Try.func5 closed (of_decide_eq_true (by kernel_rfl)) (by unfold Func.isWrapper; first | (rw [if_pos (by decide +kernel)]; kernel_rfl) | (rw [if_neg (by decide +kernel)]; exact ⟨rfl, rfl⟩))
    (fun os started H enc _ => lifted os started H enc)
end SatGraph
end Go.Proofs.Ytbkmgblijncjhaa
