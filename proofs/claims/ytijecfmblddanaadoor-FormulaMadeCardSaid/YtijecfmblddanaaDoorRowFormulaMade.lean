/- Proved: the tied card of the law FormulaMade: it returns true for every input its row admits, and each argument reads behind the call as before. No conditions; the listed variables are tied to the program's text by the given tie. -/
import Derived.Test.YtijecfmblddanaaDoorFacts
import Derived.LaidMore
import Derived.Lay
import Derived.SevenTiedAt
import Derived.Stop.Joined
import Derived.Test.YtijecfmblddanaaDoorCards
import Derived.Test.YtijecfmblddanaaDoorTie
import Derived.Test.YtijecfmblddanaaDoorOpS
import Derived.Test.YtijecfmblddanaaDoorG1
import Derived.Test.YtijecfmblddanaaDoorFmSpoilLaw
namespace Go.Proofs.YtijecfmblddanaaDoor
open Go.ChangeShapes Go.WideShapes Go.ChangeAt Go.RowKit

namespace FormulaMade
set_option maxRecDepth 100000 in
theorem lifted (os : Os) (started : os.Started) (H : Type) (enc : TypeId × Value → H) :
    ReturnsInHanded {} Tryd.checked os 8 .any (fun w args => (Rows.formulaMadeSpec.pre enc Tryd.prog Tryd.f8 Rows.formulaMadeRow.domain false w args ∧ laidMetH Tryd.prog Rows.formulaMadeRow.laid w) ∧ sizedMet enc Tryd.prog Tryd.f8 (OpenSpec.ofChange Rows.formulaMadeSpec) false w args) (Rows.formulaMadeSpec.post enc Tryd.prog Tryd.f8 false true false false) := by
  refine returnsInHanded_of_change_and (C := Tryd.checked) (X := fun w _ => laidMetH Tryd.prog Rows.formulaMadeRow.laid w) (fun _ _ _ hh h => h.of_heap hh) ownK started (by kernel_rfl) Tryd.func8
    (ChangeSpec.witness_shaped (enc := enc) (C := Tryd.checked) (os := os) (X := fun w _ => laidMetH Tryd.prog Rows.formulaMadeRow.laid w) false (World.laidAll Tryd.prog os Rows.formulaMadeRow.laid) #[.slice none 0 0, .slice none 0 0, .int .u8 0, .int .i64 0, .string ⟨#[]⟩] 8 (World.laidAll_os _ _ _)
      (World.shaped_of_ZipB (by kernel_rfl) (by kernel_rfl)) (by kernel_rfl) (by kernel_rfl) (by kernel_rfl)
      (by rw [MakeChecks.laidMetH_plain _ _ _ (by kernel_rfl)]; exact laidMet_laidAll _ (by kernel_rfl) (by kernel_rfl))) ?_
  intro W base args ds gs before hval0 hW _ hz _ _
  have hval : ∀ (j : Nat) t v, Tryd.f8.params[j]? = some t → args[j]? = some v → Value.okWide Tryd.prog W .any base t v := hval0
  have hW' := hW
  obtain ⟨p, q, hA0, hV, rfl, hfz, hnd⟩ := hW
  have hA : DataW.TrodAll enc Tryd.prog W 0 (fun _ => true) true Tryd.f8.params.toList args.toList ds p := hA0
  have hz' : ∀ n ∈ DataW.weightsEach Tryd.prog (Tryd.f8.params.toList ++ Rows.formulaMadeSpec.plain.varTypes Tryd.prog) (ds ++ gs), n ≤ reachBytes := fun n hn => by simpa using List.all_eq_true.1 hz n hn
  rw [Tryd.params8] at hA hval hz'
  clear hval0 hA0
  obtain ⟨v0, vs0, d0, ds0, p0, ps0, hx0, rfl, rfl, h0, hr0⟩ := trodAll_cons hA
  obtain ⟨v1, vs1, d1, ds1, p1, ps1, hx1, rfl, rfl, h1, hr1⟩ := trodAll_cons hr0
  obtain ⟨v2, vs2, d2, ds2, p2, ps2, hx2, rfl, rfl, h2, hr2⟩ := trodAll_cons hr1
  obtain ⟨v3, vs3, d3, ds3, p3, ps3, hx3, rfl, rfl, h3, hr3⟩ := trodAll_cons hr2
  obtain ⟨v4, vs4, d4, ds4, p4, ps4, hx4, rfl, rfl, h4, hr4⟩ := trodAll_cons hr3
  obtain ⟨rfl, rfl, rfl⟩ := trodAll_nil hr4
  obtain rfl : args = #[v0, v1, v2, v3, v4] := by cases args; simp_all
  obtain ⟨x0, A0, c0, rfl, q0, r0, s0, t0⟩ := open_u8s (hval 0 _ v0 rfl rfl) h0 (fun n hn => hz' n (by simp [DataW.weightsEach, hn]))
  obtain ⟨x1, A1, c1, rfl, q1, r1, s1, t1⟩ := open_u8s (hval 1 _ v1 rfl rfl) h1 (fun n hn => hz' n (by simp [DataW.weightsEach, hn]))
  obtain ⟨x2, rfl, _, _, q2⟩ := open_int Tryd.underlying5 (hval 2 _ v2 rfl rfl) h2
  obtain ⟨x3, rfl, _, _, q3⟩ := open_int Tryd.underlying3 (hval 3 _ v3 rfl rfl) h3
  obtain ⟨x4, rfl, q4⟩ := open_str (hval 4 _ v4 rfl rfl) h4 (fun n hn => hz' n (by simp [DataW.weightsEach, hn]))
  refine (formulaMade_any x0 A0 c0 x1 A1 c1 x2 x3 x4 W q0 r0 s0 t0 q1 r1 s1 t1 (bounds_u8 q2) (bounds_i64 q3) q4).mono fun e W' ⟨he, hb⟩ => ?_
  exact ⟨_, he, post_true laidOut rfl (by kernel_rfl) Tryd.underlying4 (fun ds h => by
    match ds, h with
    | [_, _, _, _, _], _ => rfl) (by
    rw [Tryd.params8]
    exact of_decide_eq_true (by kernel_rfl)) hW' hb⟩

theorem closed : joinedFacts Tryd.pinned.checked.prog 8 Tryd.f8 Rows.formulaMadeSpec Rows.formulaMadeRow = true := by
  unfold joinedFacts
  rw [pin_enter, pin_lifts, pin_make]
  refine Eq.trans (b := true) ?_ rfl
  kernel_rfl

theorem said : Rows.FormulaMadeSaid :=
  OpenClaim.holds_of_wide 8 Tryd.f8 rfl rfl rfl rfl rfl rfl rfl ⟨rfl, rfl, rfl, rfl, rfl⟩ rfl rfl rfl rfl rfl
    (by kernel_rfl) Tryd.func8 closed (of_decide_eq_true (by kernel_rfl)) (by unfold Func.isWrapper; first | (rw [if_pos (by decide +kernel)]; kernel_rfl) | (rw [if_neg (by decide +kernel)]; exact ⟨rfl, rfl⟩))
    (fun os started H enc _ => lifted os started H enc)

theorem proved : Rows.FormulaMadeCardSaid :=
  Claim7.holds_tied_plain_at .later [] [.data, .pinned] true (true, "00d23f8a4e1b53da158bb9cb1288cabda8b208a93e9be3f0ae07be5235e14537") true said (fun _ h => by cases h) (by kernel_rfl) (fun _ h => by cases h) formulaMade_row_tie rfl ⟨rfl, rfl⟩ (by kernel_rfl) rfl
    (fun f fn hf hfn => by
      obtain rfl : f = 8 := Option.some.inj ((show Tryd.prog.funcNamed "parterre/parterrelaw08.FormulaMade" = some 8 by kernel_rfl).symm.trans hf) |>.symm
      obtain rfl : fn = Tryd.f8 := (Option.some.inj (Tryd.func8.symm.trans hfn)).symm
      exact ⟨by kernel_rfl, fun j t ht => by
        rw [Tryd.params8] at ht
        have hm : t ∈ [24, 24, 5, 3, 9] := by simpa using Array.mem_of_getElem? ht
        have hall : ([24, 24, 5, 3, 9].all fun u => !Tryd.prog.wantsStandIn u) = true := by kernel_rfl
        exact (show Tryd.prog.wantsStandIn t = false by simpa using List.all_eq_true.1 hall t hm)⟩)
    (by kernel_rfl)
end FormulaMade
end Go.Proofs.YtijecfmblddanaaDoor
