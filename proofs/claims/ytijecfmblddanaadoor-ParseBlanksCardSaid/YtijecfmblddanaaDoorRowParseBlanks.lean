/- Proved: the tied card of the law ParseBlanks: it returns true for every input its row admits, and each argument reads behind the call as before. No conditions; the listed variables are tied to the program's text by the given tie. -/
import Derived.Test.YtijecfmblddanaaDoorFacts
import Derived.LaidMore
import Derived.Lay
import Derived.SevenTiedAt
import Derived.Stop.Joined
import Derived.Test.YtijecfmblddanaaDoorCards
import Derived.Test.YtijecfmblddanaaDoorTie
import Derived.Test.YtijecfmblddanaaDoorOpS
import Derived.Test.YtijecfmblddanaaDoorG1
import Derived.Test.YtijecfmblddanaaDoorPs9Blanks
namespace Go.Proofs.YtijecfmblddanaaDoor
open Go.ChangeShapes Go.WideShapes Go.ChangeAt Go.RowKit

namespace ParseBlanks
set_option maxRecDepth 100000 in
theorem lifted (os : Os) (started : os.Started) (H : Type) (enc : TypeId × Value → H) :
    ReturnsInHanded {} Tryd.checked os 14 .any (fun w args => (Rows.parseBlanksSpec.pre enc Tryd.prog Tryd.f14 Rows.parseBlanksRow.domain false w args ∧ laidMetH Tryd.prog Rows.parseBlanksRow.laid w) ∧ sizedMet enc Tryd.prog Tryd.f14 (OpenSpec.ofChange Rows.parseBlanksSpec) false w args) (Rows.parseBlanksSpec.post enc Tryd.prog Tryd.f14 false true false false) := by
  refine returnsInHanded_of_change_and (C := Tryd.checked) (X := fun w _ => laidMetH Tryd.prog Rows.parseBlanksRow.laid w) (fun _ _ _ hh h => h.of_heap hh) ownK started (by kernel_rfl) Tryd.func14
    (ChangeSpec.witness_shaped (enc := enc) (C := Tryd.checked) (os := os) (X := fun w _ => laidMetH Tryd.prog Rows.parseBlanksRow.laid w) false (World.laidAll Tryd.prog os Rows.parseBlanksRow.laid) #[.string ⟨#[]⟩, .slice none 0 0, .bool false] 8 (World.laidAll_os _ _ _)
      (World.shaped_of_ZipB (by kernel_rfl) (by kernel_rfl)) (by kernel_rfl) (by kernel_rfl) (by kernel_rfl)
      (by rw [MakeChecks.laidMetH_plain _ _ _ (by kernel_rfl)]; exact laidMet_laidAll _ (by kernel_rfl) (by kernel_rfl))) ?_
  intro W base args ds gs before hval0 hW _ hz _ _
  have hval : ∀ (j : Nat) t v, Tryd.f14.params[j]? = some t → args[j]? = some v → Value.okWide Tryd.prog W .any base t v := hval0
  have hW' := hW
  obtain ⟨p, q, hA0, hV, rfl, hfz, hnd⟩ := hW
  have hA : DataW.TrodAll enc Tryd.prog W 0 (fun _ => true) true Tryd.f14.params.toList args.toList ds p := hA0
  have hz' : ∀ n ∈ DataW.weightsEach Tryd.prog (Tryd.f14.params.toList ++ Rows.parseBlanksSpec.plain.varTypes Tryd.prog) (ds ++ gs), n ≤ reachBytes := fun n hn => by simpa using List.all_eq_true.1 hz n hn
  rw [Tryd.params14] at hA hval hz'
  clear hval0 hA0
  obtain ⟨v0, vs0, d0, ds0, p0, ps0, hx0, rfl, rfl, h0, hr0⟩ := trodAll_cons hA
  obtain ⟨v1, vs1, d1, ds1, p1, ps1, hx1, rfl, rfl, h1, hr1⟩ := trodAll_cons hr0
  obtain ⟨v2, vs2, d2, ds2, p2, ps2, hx2, rfl, rfl, h2, hr2⟩ := trodAll_cons hr1
  obtain ⟨rfl, rfl, rfl⟩ := trodAll_nil hr2
  obtain rfl : args = #[v0, v1, v2] := by cases args; simp_all
  obtain ⟨x0, rfl, q0⟩ := open_str (hval 0 _ v0 rfl rfl) h0 (fun n hn => hz' n (by simp [DataW.weightsEach, hn]))
  obtain ⟨x1, A1, c1, rfl, q1, r1, s1, t1⟩ := open_u8s (hval 1 _ v1 rfl rfl) h1 (fun n hn => hz' n (by simp [DataW.weightsEach, hn]))
  obtain ⟨x2, rfl, _, _⟩ := open_bool Tryd.underlying4 (hval 2 _ v2 rfl rfl) h2
  refine (parseBlanks_any x0 x1 A1 c1 x2 W q0 q1 r1 s1 t1).mono fun e W' ⟨he, hb⟩ => ?_
  exact ⟨_, he, post_true laidOut rfl (by kernel_rfl) Tryd.underlying4 (fun ds h => by
    match ds, h with
    | [_, _, _], _ => rfl) (by
    rw [Tryd.params14]
    exact of_decide_eq_true (by kernel_rfl)) hW' hb⟩

theorem closed : joinedFacts Tryd.pinned.checked.prog 14 Tryd.f14 Rows.parseBlanksSpec Rows.parseBlanksRow = true := by
  unfold joinedFacts
  rw [pin_enter, pin_lifts, pin_make]
  refine Eq.trans (b := true) ?_ rfl
  kernel_rfl

theorem said : Rows.ParseBlanksSaid :=
  OpenClaim.holds_of_wide 14 Tryd.f14 rfl rfl rfl rfl rfl rfl rfl ⟨rfl, rfl, rfl, rfl, rfl⟩ rfl rfl rfl rfl rfl
    (by kernel_rfl) Tryd.func14 closed (of_decide_eq_true (by kernel_rfl)) (by unfold Func.isWrapper; first | (rw [if_pos (by decide +kernel)]; kernel_rfl) | (rw [if_neg (by decide +kernel)]; exact ⟨rfl, rfl⟩))
    (fun os started H enc _ => lifted os started H enc)

theorem proved : Rows.ParseBlanksCardSaid :=
  Claim7.holds_tied_plain_at .later [] [.data, .pinned] true (true, "00d23f8a4e1b53da158bb9cb1288cabda8b208a93e9be3f0ae07be5235e14537") true said (fun _ h => by cases h) (by kernel_rfl) (fun _ h => by cases h) parseBlanks_row_tie rfl ⟨rfl, rfl⟩ (by kernel_rfl) rfl
    (fun f fn hf hfn => by
      obtain rfl : f = 14 := Option.some.inj ((show Tryd.prog.funcNamed "parterre/parterrelaw09.ParseBlanks" = some 14 by kernel_rfl).symm.trans hf) |>.symm
      obtain rfl : fn = Tryd.f14 := (Option.some.inj (Tryd.func14.symm.trans hfn)).symm
      exact ⟨by kernel_rfl, fun j t ht => by
        rw [Tryd.params14] at ht
        have hm : t ∈ [9, 24, 4] := by simpa using Array.mem_of_getElem? ht
        have hall : ([9, 24, 4].all fun u => !Tryd.prog.wantsStandIn u) = true := by kernel_rfl
        exact (show Tryd.prog.wantsStandIn t = false by simpa using List.all_eq_true.1 hall t hm)⟩)
    (by kernel_rfl)
end ParseBlanks
end Go.Proofs.YtijecfmblddanaaDoor
