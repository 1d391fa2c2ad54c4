/- Proved: the law CnfAny returns true for every input its row admits, and each argument reads behind the call as before. No conditions. -/
import Derived.Test.YtbdhkagcbncefaaFacts
import Derived.Test.YtbdhkagcbncefaaOpen2
import Derived.Test.YtbdhkagcbncefaaOpen3
import Derived.Test.YtbdhkagcbncefaaCnfAny
namespace Go.Proofs.Ytbdhkagcbncefaa
open Go.ChangeShapes Go.WideShapes Go.ChangeAt Go.RowKit

namespace CnfAny
set_option maxRecDepth 100000 in
theorem lifted (os : Os) (started : os.Started) (H : Type) (enc : TypeId × Value → H) :
    ReturnsInHanded {} Try.checked os 15 .any (Rows.cnfAnySpec.pre6 enc Try.prog Try.f15 Rows.cnfAnyRow.domain false) (Rows.cnfAnySpec.post enc Try.prog Try.f15 false true false false) := by
  refine returnsInHanded_of_change_sized (C := Try.checked) ownK started (by kernel_rfl) Try.func15
    (ChangeSpec.witness6 (enc := enc) (C := Try.checked) false ⟨#[], #[.agg #[.int .i64 0, .slice none 0 0], .int .i64 0, .agg #[.int .i64 0, .slice none 0 0], .slice none 0 0], []⟩ 8 (by kernel_rfl) (by kernel_rfl) (by kernel_rfl) (by kernel_rfl)) ?_
  intro W base args ds gs before hval0 hW _ hz _
  have hval : ∀ (j : Nat) t v, Try.f15.params[j]? = some t → args[j]? = some v → Value.okWide Try.prog W .any base t v := hval0
  have hW' := hW
  obtain ⟨p, q, hA0, hV, rfl, hfz, hnd⟩ := hW
  have hA : DataW.TrodAll enc Try.prog W 0 (fun _ => true) true Try.f15.params.toList args.toList ds p := hA0
  have hz' : ∀ n ∈ DataW.weightsEach Try.prog (Try.f15.params.toList ++ Rows.cnfAnySpec.plain.varTypes Try.prog) (ds ++ gs), n ≤ reachBytes := fun n hn => by simpa using List.all_eq_true.1 hz n hn
  rw [Try.params15] at hA hval hz'
  clear hval0 hA0
  obtain ⟨v0, vs0, d0, ds0, p0, ps0, hx0, rfl, rfl, h0, hr0⟩ := trodAll_cons hA
  obtain ⟨v1, vs1, d1, ds1, p1, ps1, hx1, rfl, rfl, h1, hr1⟩ := trodAll_cons hr0
  obtain ⟨v2, vs2, d2, ds2, p2, ps2, hx2, rfl, rfl, h2, hr2⟩ := trodAll_cons hr1
  obtain ⟨v3, vs3, d3, ds3, p3, ps3, hx3, rfl, rfl, h3, hr3⟩ := trodAll_cons hr2
  obtain ⟨rfl, rfl, rfl⟩ := trodAll_nil hr3
  obtain rfl : args = #[v0, v1, v2, v3] := by cases args; simp_all
  obtain ⟨g0, A0, c0, rfl, q0, r0, s0⟩ := open_graph (hval 0 _ v0 rfl rfl) h0 (fun n hn => hz' n (by simp [DataW.weightsEach, hn]))
  obtain ⟨x1, rfl, _, _, q1⟩ := open_int Try.underlying3 (hval 1 _ v1 rfl rfl) h1
  obtain ⟨n2, g2, A2, c2, rfl, q2, r2, s2⟩ := open_cnf (hval 2 _ v2 rfl rfl) h2 (fun n hn => hz' n (by simp [DataW.weightsEach, hn]))
  obtain ⟨x3, A3, c3, rfl, r3, s3, t3⟩ := open_bools (hval 3 _ v3 rfl rfl) h3 (fun n hn => hz' n (by simp [DataW.weightsEach, hn]))
  refine (cnfAny_any g0 A0 c0 x1 n2 g2 A2 c2 x3 A3 c3 W q0 r0 s0 (bounds_i64 q1) q2 r2 s2 r3 s3 t3).mono fun e W' ⟨he, hb⟩ => ?_
  exact ⟨_, he, post_true laidOut rfl (by kernel_rfl) Try.underlying4 (fun ds h => by
    match ds, h with
    | [_, _, _, _], _ => rfl) (by
    rw [Try.params15]
    exact of_decide_eq_true (by kernel_rfl)) hW' hb⟩

theorem closed : joinedFacts Try.pinned.checked.prog 15 Try.f15 Rows.cnfAnySpec Rows.cnfAnyRow = true := by
  unfold joinedFacts
  rw [pin_enter, pin_lifts, pin_make]
  refine Eq.trans (b := true) ?_ rfl
  kernel_rfl

theorem proved : Rows.CnfAnySaid :=
  OpenClaim.holds_of_wide 15 Try.f15 rfl rfl rfl rfl rfl rfl rfl ⟨rfl, rfl, rfl, rfl, rfl⟩ rfl rfl rfl rfl rfl
    (by kernel_rfl) Try.func15 closed (of_decide_eq_true (by kernel_rfl)) (by unfold Func.isWrapper; first | (rw [if_pos (by decide +kernel)]; kernel_rfl) | (rw [if_neg (by decide +kernel)]; exact ⟨rfl, rfl⟩))
    (fun os started H enc _ => lifted os started H enc)
end CnfAny
end Go.Proofs.Ytbdhkagcbncefaa
