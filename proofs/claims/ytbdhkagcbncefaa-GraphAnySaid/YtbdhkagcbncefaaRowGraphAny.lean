/- Proved: the law GraphAny returns true for every input its row admits, and each argument reads behind the call as before. No conditions. -/
import Derived.Test.YtbdhkagcbncefaaFacts
import Derived.Test.YtbdhkagcbncefaaGraphAny
namespace Go.Proofs.Ytbdhkagcbncefaa
open Go.ChangeShapes Go.WideShapes Go.ChangeAt Go.RowKit

namespace GraphAny
set_option maxRecDepth 100000 in
theorem lifted (os : Os) (started : os.Started) (H : Type) (enc : TypeId × Value → H) :
    ReturnsInHanded {} Try.checked os 8 .any (Rows.graphAnySpec.pre6 enc Try.prog Try.f8 Rows.graphAnyRow.domain false) (Rows.graphAnySpec.post enc Try.prog Try.f8 false true false false) := by
  refine returnsInHanded_of_change_sized (C := Try.checked) ownK started (by kernel_rfl) Try.func8
    (ChangeSpec.witness6 (enc := enc) (C := Try.checked) false ⟨#[], #[.agg #[.int .i64 0, .slice none 0 0], .int .i64 0, .int .i64 0, .int .i64 0], []⟩ 8 (by kernel_rfl) (by kernel_rfl) (by kernel_rfl) (by kernel_rfl)) ?_
  intro W base args ds gs before hval0 hW _ hz _
  have hval : ∀ (j : Nat) t v, Try.f8.params[j]? = some t → args[j]? = some v → Value.okWide Try.prog W .any base t v := hval0
  have hW' := hW
  obtain ⟨p, q, hA0, hV, rfl, hfz, hnd⟩ := hW
  have hA : DataW.TrodAll enc Try.prog W 0 (fun _ => true) true Try.f8.params.toList args.toList ds p := hA0
  have hz' : ∀ n ∈ DataW.weightsEach Try.prog (Try.f8.params.toList ++ Rows.graphAnySpec.plain.varTypes Try.prog) (ds ++ gs), n ≤ reachBytes := fun n hn => by simpa using List.all_eq_true.1 hz n hn
  rw [Try.params8] at hA hval hz'
  obtain ⟨v0, v1, v2, v3, d0, d1, d2, d3, p0, p1, p2, p3, rfl, rfl, rfl, h0, h1, h2, h3⟩ := trodAll_four hA
  obtain ⟨g, A, c, rfl, hg, hc, hp⟩ := open_graph (hval 0 _ v0 rfl rfl) h0 (fun n hn => hz' n (by simp [DataW.weightsEach, hn]))
  obtain ⟨a, rfl, _, _, wa⟩ := open_int Try.underlying3 (hval 1 _ v1 rfl rfl) h1
  obtain ⟨b, rfl, _, _, wb⟩ := open_int Try.underlying3 (hval 2 _ v2 rfl rfl) h2
  obtain ⟨k, rfl, _, _, wk⟩ := open_int Try.underlying3 (hval 3 _ v3 rfl rfl) h3
  rw [wf_iff] at wa wb wk
  refine (graphAny_any g a b k A c W hg wa.2 wb.2 wk.2 hc hp).mono fun e W' ⟨he, hb⟩ => ?_
  exact ⟨_, he, post_true laidOut rfl (by kernel_rfl) Try.underlying4 (fun ds h => by
    match ds, h with
    | [_, _, _, _], _ => rfl) (by
    rw [Try.params8]
    exact of_decide_eq_true (by kernel_rfl)) hW' hb⟩

theorem closed : joinedFacts Try.pinned.checked.prog 8 Try.f8 Rows.graphAnySpec Rows.graphAnyRow = true := by
  unfold joinedFacts
  rw [pin_enter, pin_lifts, pin_make]
  refine Eq.trans (b := true) ?_ rfl
  kernel_rfl

theorem proved : Rows.GraphAnySaid :=
  OpenClaim.holds_of_wide 8 Try.f8 rfl rfl rfl rfl rfl rfl rfl ⟨rfl, rfl, rfl, rfl, rfl⟩ rfl rfl rfl rfl rfl
    (by kernel_rfl) Try.func8 closed (of_decide_eq_true (by kernel_rfl)) (by unfold Func.isWrapper; first | (rw [if_pos (by decide +kernel)]; kernel_rfl) | (rw [if_neg (by decide +kernel)]; exact ⟨rfl, rfl⟩))
    (fun os started H enc _ => lifted os started H enc)
end GraphAny
end Go.Proofs.Ytbdhkagcbncefaa
