/- A solver that need not guess: run. -/
import Derived.Test.YtbkmgblijncjhaaG6
set_option linter.unusedVariables false
set_option linter.unusedSimpArgs false
namespace Go.Proofs.Ytbkmgblijncjhaa
open Go.RowKit Go.Maps
section
variable {w w' wr : World} {base b n : Nat} {F : List (List Int)} {A : List Int} {s s' s2 : SS} {G G' G2 : SG} {o o' o2 : Owns}
set_option maxRecDepth 100000 in
set_option maxHeartbeats 8000000 in
theorem run_flat (h : SMem w base b n s G o) (hr : SRel n s G) (hi : Inv n F s) {l : List Int} (hg : GInv l s) (hlims : s.lims = []) (hm : ∃ m, SatF m F) (hdead : G.dead = true → ∀ m, ¬ SatF m F) (hwat : G.dead = false → Wat s) (hw2 : G.dead = false → W2 s)
    (hall : ∀ s2 : SS, Inv n F s2 → W2 s2 → s2.done = s2.tr.length → s2.lims = [] → s2.cls = s.cls → ∀ u, 1 ≤ u → u ≤ n → (u : Int) ∈ s2.lits ∨ -(u : Int) ∈ s2.lits)
    (hn : n ≤ 900000) {B : Option Addr} {c : Nat} (hA : Vals w w.heap.size B (i64s l)) (hAo : l ≠ [] → ∀ k p, B = some ⟨k, p, none⟩ → o k = none) (hll : l.length ≤ 140737488355328) (hc : l.length ≤ c) (hl : ∀ x ∈ l, x ≠ 0 ∧ x.natAbs ≤ n) (hb1 : s.cls.length ≤ 4000000000000) :
    Calls Try.prog 27 #[.pointer (some ⟨b, 0, none⟩), .slice B l.length c, .int .i64 0] w (RunPost w n F s o l) := by
  have hdd : G.dead = false := by
    cases e : G.dead with
    | false => rfl
    | true =>
      obtain ⟨m, hm⟩ := hm
      exact absurd hm (hdead e m)
  have HL := Lib.hid hl
  have HA := Lib.hid hA
  have HAO := Lib.hid hAo
  have HALL := Lib.hid hall
  have HM := Lib.hid hm
  have HLI := Lib.hid hlims
  have HST := Lib.hid (RunSt.start h hr hi (hwat hdd) hg hdd)
  have HW2 := Lib.hid (hw2 hdd)
  clear h hr hi hg hdead hwat hw2 hall hm hlims hA hAo hl hdd
  go_enter Try.func27, Try.ntmps27
  go_wp2_with fail
  go_loopw [] (fun wr => wr = w) (fun _ => 0)
  case atStart => rfl
  case round =>
    have hwr := hrel.symm
    subst hwr
    have c12 : w.cell? ⟨b, 12, none⟩ = some (.bool false) := (HST.out.m.sb.cell 12).trans (by rw [← HST.out.dead]; rfl)
    have HFOL := Lib.hid (follow_any HST.out.m HST.out.r HST.out.i HST.out.wa HST.out.g (by omega) (by omega))
    go_wp2_with fail
    refine HFOL.out.mono ?_
    rintro e w2 ⟨r, s2, G2, o2, rfl, hfo, hcase⟩
    have HR2 := Lib.hid (HST.out.follow hfo)
    have HLI2 : Hid (s2.lims = []) := Lib.hid (hfo.lims.trans HLI.out)
    have HC2 := Lib.hid hfo.cls
    have HW := Lib.hid (hfo.w2 HW2.out)
    clear hfo HFOL c12
    rcases hcase with ⟨hr1, hdn⟩ | ⟨k, cc, hr1, hck, hfk⟩
    · subst hr1
      have HDN := Lib.hid hdn
      clear hdn
      have HTU := Lib.hid (turn_any HR2.out.m HR2.out.r HR2.out.i (by omega) (vals_fr HA.out (fun h => HAO.out fun e => h (by rw [e]; rfl)) HR2.out.fr) hll hc HL.out)
      go_wp2_with fail
      refine HTU.out.mono ?_
      rintro e w3 (⟨rfl, hb, hx⟩ | ⟨rfl, hb, hx, htold⟩ | ⟨rfl, x, G3, o3, hx, hgu⟩)
      · have HX := Lib.hid hx
        have HR3 := Lib.hid (HR2.out.after hb)
        clear hb hx HTU
        go_wp2_with fail
        refine bodyPost_ret (v := .tuple #[.slice none 0 0, .bool false, .int .i64 0]) (by simp [results, Try.results27, go_sem]) rfl (.inl ⟨rfl, fun m hm ha => ?_, HR3.out.fr⟩)
        obtain ⟨a, ha1, ha2⟩ := HX.out
        exact HR2.out.i.no_assumed HR2.out.g ha1 ha2 m hm ha
      · have HX := Lib.hid hx
        have HT := Lib.hid htold
        have HR3 := Lib.hid (HR2.out.after hb)
        have HMO := Lib.hid (model_any HR3.out.m HR3.out.r (by omega))
        clear hb hx htold HTU
        go_wp2_with fail
        refine HMO.out.mono ?_
        rintro e w4 ⟨g, rfl, hg1, hb, hX⟩
        have HR4 := Lib.hid (HR3.out.after hb)
        have HXB := Lib.hid (And.intro hg1 hX)
        clear hb hg1 hX HMO
        go_wp2_with fail
        refine bodyPost_ret (v := .tuple #[.slice (some ⟨g, 0, none⟩) n n, .bool true, .int .i64 0]) (by simp [results, Try.results27, go_sem]) rfl (.inr ⟨g, modelL n s2, rfl, Nat.le_trans HR3.out.fr.size HXB.out.1, HXB.out.2, by simp [modelL], fun d hd => ?_, fun a ha => ?_, HR4.out.fr⟩)
        · have hd2 := HR2.out.cls.subset hd
          obtain ⟨y, hy, hon⟩ := HR2.out.i.is_model HR2.out.wa HDN.out (fun v h1 h2 => HT.out v h1 h2) d hd2
          have hyr := HR2.out.i.rng d hd2 y hy
          exact ⟨y, hy, by rw [mL_model hyr.1 hyr.2]; exact hon⟩
        · rw [mL_model (HL.out a ha).1 (HL.out a ha).2]
          exact HR2.out.i.on_of_mem (HX.out a ha)
      · have h0 := hgu.x0
        have h1 := hgu.xn
        have h2 := hgu.u1
        have h3 := hgu.u2
        have h4 := HALL.out s2 HR2.out.i HW.out HDN.out HLI2.out HC2.out x.natAbs (by omega) h1
        rcases (by omega : ((x.natAbs : Nat) : Int) = x ∨ ((x.natAbs : Nat) : Int) = -x) with e | e
        · rw [e] at h4
          rcases h4 with h4 | h4
          · exact absurd h4 h2
          · exact absurd h4 h3
        · rw [e, Int.neg_neg] at h4
          rcases h4 with h4 | h4
          · exact absurd h4 h3
          · exact absurd h4 h2
    · obtain ⟨m, hm⟩ := HM.out
      exact absurd hm (HR2.out.i.no_model HLI2.out (List.mem_of_getElem? hck) hfk m)
end
end Go.Proofs.Ytbkmgblijncjhaa
