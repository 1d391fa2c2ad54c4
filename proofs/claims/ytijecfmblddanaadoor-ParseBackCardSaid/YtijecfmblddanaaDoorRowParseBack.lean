/- Proved: the tied card of the law ParseBack: it returns true for every input its row admits, and each argument reads behind the call as before. No conditions; the listed variables are tied to the program's text by the given tie. -/
import Derived.Test.YtijecfmblddanaaDoorFacts
import Derived.LaidMore
import Derived.Lay
import Derived.SevenTiedAt
import Derived.Stop.Joined
import Derived.Test.YtijecfmblddanaaDoorCards
import Derived.Test.YtijecfmblddanaaDoorTie
import Derived.Test.YtijecfmblddanaaDoorG1
import Derived.Test.YtijecfmblddanaaDoorPs9Back
namespace Go.Proofs.YtijecfmblddanaaDoor
open Go.ChangeShapes Go.WideShapes Go.ChangeAt Go.RowKit

namespace ParseBack
set_option maxRecDepth 100000 in
theorem lifted (os : Os) (started : os.Started) (H : Type) (enc : TypeId × Value → H) :
    ReturnsInHanded {} Tryd.checked os 13 .any (fun w args => (Rows.parseBackSpec.pre enc Tryd.prog Tryd.f13 Rows.parseBackRow.domain false w args ∧ laidMetH Tryd.prog Rows.parseBackRow.laid w) ∧ sizedMet enc Tryd.prog Tryd.f13 (OpenSpec.ofChange Rows.parseBackSpec) false w args) (Rows.parseBackSpec.post enc Tryd.prog Tryd.f13 false true false false) := by
  refine returnsInHanded_of_change_and (C := Tryd.checked) (X := fun w _ => laidMetH Tryd.prog Rows.parseBackRow.laid w) (fun _ _ _ hh h => h.of_heap hh) ownK started (by kernel_rfl) Tryd.func13
    (ChangeSpec.witness_shaped (enc := enc) (C := Tryd.checked) (os := os) (X := fun w _ => laidMetH Tryd.prog Rows.parseBackRow.laid w) false (World.laidAll Tryd.prog os Rows.parseBackRow.laid) #[.slice none 0 0] 8 (World.laidAll_os _ _ _)
      (World.shaped_of_ZipB (by kernel_rfl) (by kernel_rfl)) (by kernel_rfl) (by kernel_rfl) (by kernel_rfl)
      (by rw [MakeChecks.laidMetH_plain _ _ _ (by kernel_rfl)]; exact laidMet_laidAll _ (by kernel_rfl) (by kernel_rfl))) ?_
  intro W base args ds gs before hval0 hW _ hz _ _
  have hval : ∀ (j : Nat) t v, Tryd.f13.params[j]? = some t → args[j]? = some v → Value.okWide Tryd.prog W .any base t v := hval0
  have hW' := hW
  obtain ⟨p, q, hA0, hV, rfl, hfz, hnd⟩ := hW
  have hA : DataW.TrodAll enc Tryd.prog W 0 (fun _ => true) true Tryd.f13.params.toList args.toList ds p := hA0
  have hz' : ∀ n ∈ DataW.weightsEach Tryd.prog (Tryd.f13.params.toList ++ Rows.parseBackSpec.plain.varTypes Tryd.prog) (ds ++ gs), n ≤ reachBytes := fun n hn => by simpa using List.all_eq_true.1 hz n hn
  rw [Tryd.params13] at hA hval hz'
  clear hval0 hA0
  obtain ⟨v0, vs0, d0, ds0, p0, ps0, hx0, rfl, rfl, h0, hr0⟩ := trodAll_cons hA
  obtain ⟨rfl, rfl, rfl⟩ := trodAll_nil hr0
  obtain rfl : args = #[v0] := by cases args; simp_all
  obtain ⟨x0, A0, c0, rfl, q0, r0, s0, t0⟩ := open_u8s (hval 0 _ v0 rfl rfl) h0 (fun n hn => hz' n (by simp [DataW.weightsEach, hn]))
  refine (parseBack_any x0 A0 c0 W q0 r0 s0 t0).mono fun e W' ⟨he, hb⟩ => ?_
  exact ⟨_, he, post_true laidOut rfl (by kernel_rfl) Tryd.underlying4 (fun ds h => by
    match ds, h with
    | [_], _ => rfl) (by
    rw [Tryd.params13]
    exact of_decide_eq_true (by kernel_rfl)) hW' hb⟩

theorem closed : joinedFacts Tryd.pinned.checked.prog 13 Tryd.f13 Rows.parseBackSpec Rows.parseBackRow = true := by
  unfold joinedFacts
  rw [pin_enter, pin_lifts, pin_make]
  refine Eq.trans (b := true) ?_ rfl
  kernel_rfl

theorem said : Rows.ParseBackSaid :=
  OpenClaim.holds_of_wide 13 Tryd.f13 rfl rfl rfl rfl rfl rfl rfl ⟨rfl, rfl, rfl, rfl, rfl⟩ rfl rfl rfl rfl rfl
    (by kernel_rfl) Tryd.func13 closed (of_decide_eq_true (by kernel_rfl)) (by unfold Func.isWrapper; first | (rw [if_pos (by decide +kernel)]; kernel_rfl) | (rw [if_neg (by decide +kernel)]; exact ⟨rfl, rfl⟩))
    (fun os started H enc _ => lifted os started H enc)

theorem proved : Rows.ParseBackCardSaid :=
  Claim7.holds_tied_plain_at .later [] [.data, .pinned] true (true, "00d23f8a4e1b53da158bb9cb1288cabda8b208a93e9be3f0ae07be5235e14537") true said (fun _ h => by cases h) (by kernel_rfl) (fun _ h => by cases h) parseBack_row_tie rfl ⟨rfl, rfl⟩ (by kernel_rfl) rfl
    (fun f fn hf hfn => by
      obtain rfl : f = 13 := Option.some.inj ((show Tryd.prog.funcNamed "parterre/parterrelaw09.ParseBack" = some 13 by kernel_rfl).symm.trans hf) |>.symm
      obtain rfl : fn = Tryd.f13 := (Option.some.inj (Tryd.func13.symm.trans hfn)).symm
      exact ⟨by kernel_rfl, fun j t ht => by
        rw [Tryd.params13] at ht
        have hm : t ∈ [24] := by simpa using Array.mem_of_getElem? ht
        have hall : ([24].all fun u => !Tryd.prog.wantsStandIn u) = true := by kernel_rfl
        exact (show Tryd.prog.wantsStandIn t = false by simpa using List.all_eq_true.1 hall t hm)⟩)
    (by kernel_rfl)
end ParseBack
end Go.Proofs.YtijecfmblddanaaDoor
