/- Parsing: ParseMade. -/
import Derived.Test.YtijecfmblddanaaGreatDoorG4
import Derived.Test.YtijecfmblddanaaGreatDoorPBackLaw
import Derived.Test.YtijecfmblddanaaGreatDoorPs9Same
import Derived.Test.YtijecfmblddanaaGreatDoorG14
import Derived.Test.YtijecfmblddanaaGreatDoorG2
import Derived.Test.YtijecfmblddanaaGreatDoorG1
set_option linter.unusedVariables false
set_option linter.unusedSimpArgs false
namespace Go.Proofs.YtijecfmblddanaaGreatDoor
open Go.RowKit Go.Maps

def ps9E : List (List UInt8) := [[40], [41], [38], [45, 62], [32], [33], [91], [85]]
theorem ps9E_len : ∀ i : Nat, i < 8 → (ps9E.getD i []).length ≤ 2 := by decide
theorem ps9E_at : ∀ i : Nat, i < 8 → (#[.string ⟨#[40]⟩, .string ⟨#[41]⟩, .string ⟨#[38]⟩, .string ⟨#[45, 62]⟩, .string ⟨#[32]⟩, .string ⟨#[33]⟩, .string ⟨#[91]⟩, .string ⟨#[85]⟩] : Array Value)[i]? = some (.string ⟨(ps9E.getD i []).toArray⟩) := fun i hi => by
  match i, hi with
  | 0, _ => rfl
  | 1, _ => rfl
  | 2, _ => rfl
  | 3, _ => rfl
  | 4, _ => rfl
  | 5, _ => rfl
  | 6, _ => rfl
  | 7, _ => rfl

theorem txt_ne {f : Fm} (h : f.ok = true) : f.txt ≠ [] := fun e => by
  have h1 := lexToks_two f h
  rw [e] at h1
  revert h1
  decide

set_option maxRecDepth 100000 in
set_option maxHeartbeats 2000000 in
theorem parseMade_any (l0 : List Int) (A0 : Option Addr) (c0 : Nat) (p q h : Int) (w : World) (hr : ∀ x ∈ l0, 0 ≤ x ∧ x ≤ 255) (hc : l0.length ≤ c0) (hl : c0 ≤ 140737488355328) (hA : Vals w w.heap.size A0 (l0.map (.int .u8 ·))) (hp : 0 ≤ p ∧ p ≤ 255) (hq : 0 ≤ q ∧ q ≤ 255) (hh : 0 ≤ h ∧ h ≤ 255) :
    Calls Tryz.prog 3 #[.slice A0 l0.length c0, .int .u8 p, .int .u8 q, .int .u8 h] w (Ret w (.bool true)) := by
  have n1 := nums_of hA hr
  rw [← bytesI_len l0]
  rw [← bytesI_len l0] at hc
  clear hA hr
  obtain ⟨l, hl'⟩ : ∃ l, l = bytesI l0 := ⟨_, rfl⟩
  rw [← hl'] at n1 hc ⊢
  clear hl' l0
  have HM1 := Lib.hid (made_any l w A0 c0 hc hl n1)
  clear n1 hc
  have hok := madeF_ok l
  have htl := made_txt l
  have hne := txt_ne hok
  have hpr : (madeF l).print = ((madeF l).txt, 0) := by unfold Fm.print; rw [if_pos hok]
  have HP : Hid (∀ A c W, FmV W W.heap.size (madeF l) A c → Calls Tryz.prog 4 #[fmA (madeF l) A c] W (Ret W (.tuple #[.string ⟨(madeF l).txt.toArray⟩, .int .i64 0]))) := Lib.hid fun A c W h => by
    have h2 := rprint_any (madeF l) A c W h
    rw [hpr] at h2
    exact h2
  have hsz : (⟨(madeF l).txt.toArray⟩ : ByteArray).size ≤ 19000 := by
    show (madeF l).txt.toArray.size ≤ _
    rw [List.size_toArray]
    exact htl
  have hpos : 0 < (⟨(madeF l).txt.toArray⟩ : ByteArray).size := by
    show 0 < (madeF l).txt.toArray.size
    rw [List.size_toArray]
    exact List.length_pos_iff.2 hne
  clear hok htl hne hpr
  unfold MadePost at HM1
  generalize madeF l = f at HM1 HP hsz hpos
  generalize (⟨f.txt.toArray⟩ : ByteArray) = S at HP hsz hpos
  have hemp2 : ¬ S.toList = [] := by
    rw [Lib.toList_data]
    intro e
    have e2 := congrArg List.length e
    have h2 : S.data.toList.length = S.size := Array.length_toList
    simp only [List.length_nil] at e2
    omega
  have hemp : S.toList.isEmpty = false := by
    rw [← Bool.not_eq_true, List.isEmpty_iff]
    exact hemp2
  go_enter Tryz.func3, Tryz.ntmps3
  go_wp2_with fail
  refine HM1.out.mono ?_
  rintro e w1 ⟨A, c, rfl, hv, hb⟩
  have HV := Lib.hid (hv.v (B := w1.heap.size) (fun b h => h.2))
  have HB1 := Lib.hid hb
  clear hv hb HM1
  unfold fmA
  go_wp2_with fail
  refine (HP.out A c w1 HV.out).mono ?_
  rintro e w2 ⟨rfl, hb⟩
  have HB2 := Lib.hid (step2 HB1.out hb)
  clear hb HV HB1 HP
  go_wp2_with fail
  refine (same9_any S (by omega) w2).mono ?_
  rintro e w3 ⟨rfl, hb⟩
  have HB3 := Lib.hid (step2 HB2.out hb)
  clear hb HB2
  have hz : ¬ ((S.size : Int) = 0) := by omega
  obtain ⟨k, hk⟩ : ∃ k : Nat, (k : Int) = p.tmod (S.size : Int) := ⟨(p.tmod (S.size : Int)).toNat, by rw [Int.tmod_eq_emod_of_nonneg hp.1]; exact Int.toNat_of_nonneg (Int.emod_nonneg _ (show (S.size : Int) ≠ 0 by omega))⟩
  have hks : k < S.size := by
    have h5 : (k : Int) < (S.size : Int) := by
      rw [hk, Int.tmod_eq_emod_of_nonneg hp.1]
      exact Int.emod_lt_of_pos p (show (0 : Int) < S.size by omega)
    omega
  have hkm := hk.symm
  clear hk
  have hk0 : k ≤ S.size := by omega
  have hk1 : (k : Int) + 1 ≤ (S.size : Int) := by omega
  have hk2 : 0 ≤ (k : Int) + 1 := by omega
  have hwr : IntKind.i64.wrap ((k : Int) + 1) = (k : Int) + 1 := IntWalk.i64_in _ (by omega)
  have z0 : ∀ a b, (S.extract a b).size ≤ 19000 := fun a b => by
    rw [ByteArray.size_extract]
    omega
  go_wp2_with fail
  refine wp_region_noPanic ?_
  refine wp_region_grow (fun _ => True) (Ord.ofList [0, 1, 3, 7, 8, 9, 2, 10, 4, 5, 6, 11, 12] .done) [0, 1, 2, 3, 5, 6, 7, 8, 9, 10, 11, 12] (by kernel_rfl) (by kernel_rfl) rfl (by kernel_rfl) (fun _ _ _ _ _ h => h) ?_ (fun hSS => ?_)
  · trivial
  have HW0 := Lib.hid (step2 HB3.out (stepD1 w3))
  clear hSS
  generalize w3.drew = w4 at HW0 ⊢
  (refine wpGrow_mov rfl rfl ?_; intro o ho; simp only [List.getElem?_toArray, List.getElem?_cons_zero, List.getElem?_cons_succ, Option.some.injEq] at ho; subst ho; refine ⟨?_, Or.inl ⟨by rfl, fun W hSW => ?_⟩, ?_⟩; rotate_left; (focus (go_simp; first | done | with_reducible rfl)); try simp only [Act.put, List.setIfInBounds_toArray, List.set_cons_zero, List.set_cons_succ])
  (refine wpGrow_mov rfl rfl ?_; intro o ho; simp only [List.getElem?_toArray, List.getElem?_cons_zero, List.getElem?_cons_succ, Option.some.injEq] at ho; subst ho; refine ⟨?_, Or.inl ⟨by rfl, fun W hSW => ?_⟩, ?_⟩; rotate_left; (focus (go_simp; first | done | with_reducible rfl)); try simp only [Act.put, List.setIfInBounds_toArray, List.set_cons_zero, List.set_cons_succ])
  (refine wpGrow_mov rfl rfl ?_; intro o ho; simp only [List.getElem?_toArray, List.getElem?_cons_zero, List.getElem?_cons_succ, Option.some.injEq] at ho; subst ho; refine ⟨?_, Or.inl ⟨by rfl, fun W hSW => ?_⟩, ?_⟩; rotate_left; (focus (go_simp; first | done | with_reducible rfl)); try simp only [Act.put, List.setIfInBounds_toArray, List.set_cons_zero, List.set_cons_succ])
  (refine wpGrow_mov rfl rfl ?_; intro o ho; simp only [List.getElem?_toArray, List.getElem?_cons_zero, List.getElem?_cons_succ, Option.some.injEq] at ho; subst ho; refine ⟨?_, Or.inl ⟨by rfl, fun W hSW => ?_⟩, ?_⟩; rotate_left; (focus (go_simp; first | done | with_reducible rfl)); try simp only [Act.put, List.setIfInBounds_toArray, List.set_cons_zero, List.set_cons_succ])
  (refine wpGrow_mov rfl rfl ?_; intro o ho; simp only [List.getElem?_toArray, List.getElem?_cons_zero, List.getElem?_cons_succ, Option.some.injEq] at ho; subst ho; refine ⟨?_, Or.inl ⟨by rfl, fun W hSW => ?_⟩, ?_⟩; rotate_left; (focus (go_simp; first | done | with_reducible rfl)); try simp only [Act.put, List.setIfInBounds_toArray, List.set_cons_zero, List.set_cons_succ])
  (refine wpGrow_mov rfl rfl ?_; intro o ho; simp only [List.getElem?_toArray, List.getElem?_cons_zero, List.getElem?_cons_succ, Option.some.injEq] at ho; subst ho; refine ⟨?_, Or.inl ⟨by rfl, fun W hSW => ?_⟩, ?_⟩; rotate_left; (focus (go_simp; first | done | with_reducible rfl)); try simp only [Act.put, List.setIfInBounds_toArray, List.set_cons_zero, List.set_cons_succ])
  (refine wpGrow_mov rfl rfl ?_; intro o ho; simp only [List.getElem?_toArray, List.getElem?_cons_zero, List.getElem?_cons_succ, Option.some.injEq] at ho; subst ho; refine ⟨?_, Or.inl ⟨by rfl, fun W hSW => ?_⟩, ?_⟩; rotate_left; (focus (go_simp; first | done | with_reducible rfl)); try simp only [Act.put, List.setIfInBounds_toArray, List.set_cons_zero, List.set_cons_succ])
  (refine wpGrow_mov rfl rfl ?_; intro o ho; simp only [List.getElem?_toArray, List.getElem?_cons_zero, List.getElem?_cons_succ, Option.some.injEq] at ho; subst ho; refine ⟨?_, Or.inl ⟨by rfl, fun W hSW => ?_⟩, ?_⟩; rotate_left; (focus (go_simp; first | done | with_reducible rfl)); try simp only [Act.put, List.setIfInBounds_toArray, List.set_cons_zero, List.set_cons_succ])
  obtain ⟨SQ, hSQ⟩ : ∃ SQ : ByteArray, SQ = ⟨#[UInt8.ofNat q.toNat]⟩ := ⟨_, rfl⟩
  have zq : SQ.size = 1 := by rw [hSQ]; rfl
  (refine wpGrow_fix rfl rfl ?_; intro o ho; simp only [List.getElem?_toArray, List.getElem?_cons_zero, List.getElem?_cons_succ, Option.some.injEq] at ho; subst ho; intro K hK)
  go_simp
  have HW5 := Lib.hid (step2 HW0.out (stepA w4 (.cells #[.int .u8 q] 5)))
  have HCV : ∀ W : World, W.cell? ⟨w4.heap.size, 0, none⟩ = some (.int .u8 q) → (convert 22 9 (.slice (some ⟨w4.heap.size, 0, none⟩) 1 1)).run Tryz.prog W = .ok (.string SQ) W := fun W hW => by
    rw [hSQ]
    exact run_convert_bytes_back (P := Tryz.prog) W 22 9 5 ⟨w4.heap.size, 0, none⟩ 1 [UInt8.ofNat q.toNat] Tryz.underlying22 Tryz.underlying5 Tryz.underlying9 (fun j hj => by
      have hj0 : j = 0 := by simpa using hj
      subst hj0
      rw [show (⟨w4.heap.size, 0, none⟩ : Addr).add 0 = ⟨w4.heap.size, 0, none⟩ from rfl, hW]
      congr 2
      simp
      omega)
  (refine hK.out _ _ ⟨(fun W => W.cell? ⟨w4.heap.size, 0, none⟩ = some (.int .u8 q)), (fun _ _ => trivial), (Blk.new w4 5 #[.int .u8 q]).cell 0, ?_⟩; clear hK K; try simp only [Act.put, List.setIfInBounds_toArray, List.set_cons_zero, List.set_cons_succ])
  clear hSQ
  have z1 := z0 0 k
  have z2 := z0 (k + 1) S.size
  generalize S.extract 0 k = SA at z1 ⊢
  generalize S.extract (k + 1) S.size = SB at z2 ⊢
  have hs1 : ¬ 9223372036854775807 < SA.size + SQ.size := by omega
  have hs1' : SA.size + SQ.size ≤ 9223372036854775807 := by omega
  have hs2 : ¬ 9223372036854775807 < SA.size + SQ.size + SB.size := by omega
  have hs2' : SA.size + SQ.size + SB.size ≤ 9223372036854775807 := by omega
  have zt : (SA ++ SQ ++ SB).size ≤ 140737488355328 := by
    rw [ByteArray.size_append, ByteArray.size_append]
    omega
  clear zq z1 z2
  generalize w4.heap.size = r4 at HCV ⊢
  (refine wpGrow_mov rfl rfl ?_; intro o ho; simp only [List.getElem?_toArray, List.getElem?_cons_zero, List.getElem?_cons_succ, Option.some.injEq] at ho; subst ho; refine ⟨?_, Or.inl ⟨by rfl, fun W hSW => ?_⟩, ?_⟩; rotate_left; (focus (go_simp; first | done | with_reducible rfl)); try simp only [Act.put, List.setIfInBounds_toArray, List.set_cons_zero, List.set_cons_succ])
  (refine wpGrow_mov rfl rfl ?_; intro o ho; simp only [List.getElem?_toArray, List.getElem?_cons_zero, List.getElem?_cons_succ, Option.some.injEq] at ho; subst ho; refine ⟨?_, Or.inl ⟨by rfl, fun W hSW => ?_⟩, ?_⟩; rotate_left; (focus (go_simp; first | done | with_reducible rfl)); try simp only [Act.put, List.setIfInBounds_toArray, List.set_cons_zero, List.set_cons_succ])
  (refine wpGrow_mov rfl rfl ?_; intro o ho; simp only [List.getElem?_toArray, List.getElem?_cons_zero, List.getElem?_cons_succ, Option.some.injEq] at ho; subst ho; refine ⟨?_, Or.inl ⟨by rfl, fun W hSW => ?_⟩, ?_⟩; rotate_left; (focus (go_simp; first | done | with_reducible rfl)); try simp only [Act.put, List.setIfInBounds_toArray, List.set_cons_zero, List.set_cons_succ])
  (refine wpGrow_mov rfl rfl ?_; intro o ho; simp only [List.getElem?_toArray, List.getElem?_cons_zero, List.getElem?_cons_succ, Option.some.injEq] at ho; subst ho; refine ⟨?_, Or.inl ⟨by rfl, fun W hSW => ?_⟩, ?_⟩; rotate_left; (focus (go_simp; first | done | with_reducible rfl)); try simp only [Act.put, List.setIfInBounds_toArray, List.set_cons_zero, List.set_cons_succ])
  refine wpGrow_done ?_
  clear hs1 hs1' hs2 hs2' HCV HW0
  generalize SA ++ SQ ++ SB = T at zt ⊢
  generalize w4.alloc (.cells #[.int .u8 q] 5) = w5 at HW5 ⊢
  have hm : h % 4 = 0 ∨ h % 4 = 1 ∨ h % 4 = 2 ∨ h % 4 = 3 := by omega
  rcases hm with e4 | e4 | e4 | e4
  · skip
    go_wp2_with fail
    refine (awake9_any _).mono ?_
    rintro e v1 ⟨rfl, hb1⟩
    have HB1 := Lib.hid (step2 HW5.out hb1)
    clear hb1
    go_wp2_with fail
    refine (same9_any T zt _).mono ?_
    rintro e v2 ⟨rfl, hb2⟩
    have HB2 := Lib.hid (step2 HB1.out hb2)
    clear hb2 HB1
    go_wp2_with fail
    go_ret
    exact ⟨rfl, HB2.out⟩
  · go_wp2_with fail
    refine wp_region_noPanic ?_
    refine wp_region_seq (fun _ => True) [0, 1, 3, 4, 5, 2, 6, 7, 8] [0, 1, 2, 3, 4, 5, 6, 7, 8] [] (by kernel_rfl) (by kernel_rfl) rfl (by kernel_rfl) (by kernel_rfl) (fun _ _ _ _ _ h => h) ?_ (fun hSS => ?_)
    · trivial
    clear hSS
    have HW6 := Lib.hid (step2 HW5.out (stepD1 w5))
    generalize w5.drew = w6 at HW6 ⊢
    (refine wpSeq_mov rfl rfl ?_; intro o ho; simp only [List.getElem?_toArray, List.getElem?_cons_zero, List.getElem?_cons_succ, Option.some.injEq] at ho; subst ho; refine ⟨?_, Or.inl ⟨by rfl, fun W hSW => ?_⟩, ?_⟩; rotate_left; (focus (go_simp; first | done | with_reducible rfl)); try simp only [Act.put, List.setIfInBounds_toArray, List.set_cons_zero, List.set_cons_succ])
    (refine wpSeq_mov rfl rfl ?_; intro o ho; simp only [List.getElem?_toArray, List.getElem?_cons_zero, List.getElem?_cons_succ, Option.some.injEq] at ho; subst ho; refine ⟨?_, Or.inl ⟨by rfl, fun W hSW => ?_⟩, ?_⟩; rotate_left; (focus (go_simp; first | done | with_reducible rfl)); try simp only [Act.put, List.setIfInBounds_toArray, List.set_cons_zero, List.set_cons_succ])
    (refine wpSeq_mov rfl rfl ?_; intro o ho; simp only [List.getElem?_toArray, List.getElem?_cons_zero, List.getElem?_cons_succ, Option.some.injEq] at ho; subst ho; refine ⟨?_, Or.inl ⟨by rfl, fun W hSW => ?_⟩, ?_⟩; rotate_left; (focus (go_simp; first | done | with_reducible rfl)); try simp only [Act.put, List.setIfInBounds_toArray, List.set_cons_zero, List.set_cons_succ])
    (refine wpSeq_mov rfl rfl ?_; intro o ho; simp only [List.getElem?_toArray, List.getElem?_cons_zero, List.getElem?_cons_succ, Option.some.injEq] at ho; subst ho; refine ⟨?_, Or.inl ⟨by rfl, fun W hSW => ?_⟩, ?_⟩; rotate_left; (focus (go_simp; first | done | with_reducible rfl)); try simp only [Act.put, List.setIfInBounds_toArray, List.set_cons_zero, List.set_cons_succ])
    (refine wpSeq_mov rfl rfl ?_; intro o ho; simp only [List.getElem?_toArray, List.getElem?_cons_zero, List.getElem?_cons_succ, Option.some.injEq] at ho; subst ho; refine ⟨?_, Or.inl ⟨by rfl, fun W hSW => ?_⟩, ?_⟩; rotate_left; (focus (go_simp; first | done | with_reducible rfl)); try simp only [Act.put, List.setIfInBounds_toArray, List.set_cons_zero, List.set_cons_succ])
    (refine wpSeq_mov rfl rfl ?_; intro o ho; simp only [List.getElem?_toArray, List.getElem?_cons_zero, List.getElem?_cons_succ, Option.some.injEq] at ho; subst ho; refine ⟨?_, Or.inl ⟨by rfl, fun W hSW => ?_⟩, ?_⟩; rotate_left; (focus (go_simp; first | done | with_reducible rfl)); try simp only [Act.put, List.setIfInBounds_toArray, List.set_cons_zero, List.set_cons_succ])
    (refine wpSeq_mov rfl rfl ?_; intro o ho; simp only [List.getElem?_toArray, List.getElem?_cons_zero, List.getElem?_cons_succ, Option.some.injEq] at ho; subst ho; refine ⟨?_, Or.inl ⟨by rfl, fun W hSW => ?_⟩, ?_⟩; rotate_left; (focus (go_simp; first | done | with_reducible rfl)); try simp only [Act.put, List.setIfInBounds_toArray, List.set_cons_zero, List.set_cons_succ])
    have z1 := z0 0 k
    have z2 := z0 (k + 1) S.size
    generalize S.extract 0 k = SC at z1 ⊢
    generalize S.extract (k + 1) S.size = SD at z2 ⊢
    have hs1 : ¬ 9223372036854775807 < SC.size + SD.size := by omega
    have hs1' : SC.size + SD.size ≤ 9223372036854775807 := by omega
    have zt2 : (SC ++ SD).size ≤ 140737488355328 := by
      rw [ByteArray.size_append]
      omega
    clear z1 z2
    (refine wpSeq_mov rfl rfl ?_; intro o ho; simp only [List.getElem?_toArray, List.getElem?_cons_zero, List.getElem?_cons_succ, Option.some.injEq] at ho; subst ho; refine ⟨?_, Or.inl ⟨by rfl, fun W hSW => ?_⟩, ?_⟩; rotate_left; (focus (go_simp; first | done | with_reducible rfl)); try simp only [Act.put, List.setIfInBounds_toArray, List.set_cons_zero, List.set_cons_succ])
    (refine wpSeq_mov rfl rfl ?_; intro o ho; simp only [List.getElem?_toArray, List.getElem?_cons_zero, List.getElem?_cons_succ, Option.some.injEq] at ho; subst ho; refine ⟨?_, Or.inl ⟨by rfl, fun W hSW => ?_⟩, ?_⟩; rotate_left; (focus (go_simp; first | done | with_reducible rfl)); try simp only [Act.put, List.setIfInBounds_toArray, List.set_cons_zero, List.set_cons_succ])
    refine wpSeq_done ?_
    generalize SC ++ SD = T2 at zt2 ⊢
    go_wp2_with fail
    refine (awake9_any _).mono ?_
    rintro e v1 ⟨rfl, hb1⟩
    have HB1 := Lib.hid (step2 HW6.out hb1)
    clear hb1
    go_wp2_with fail
    refine (same9_any T2 zt2 _).mono ?_
    rintro e v2 ⟨rfl, hb2⟩
    have HB2 := Lib.hid (step2 HB1.out hb2)
    clear hb2 HB1
    go_wp2_with fail
    go_ret
    exact ⟨rfl, HB2.out⟩
  · have zt2 : (S.extract 0 k).size ≤ 140737488355328 := Nat.le_trans (z0 0 k) (by decide)
    go_wp2_with fail
    refine (awake9_any _).mono ?_
    rintro e v1 ⟨rfl, hb1⟩
    have HB1 := Lib.hid (step2 HW5.out hb1)
    clear hb1
    go_wp2_with fail
    refine (same9_any (S.extract 0 k) zt2 _).mono ?_
    rintro e v2 ⟨rfl, hb2⟩
    have HB2 := Lib.hid (step2 HB1.out hb2)
    clear hb2 HB1
    go_wp2_with fail
    go_ret
    exact ⟨rfl, HB2.out⟩
  · have hq8 : q.tmod 8 = q % 8 := Int.tmod_eq_emod_of_nonneg hq.1
    have hwq : IntKind.i64.wrap q = q := IntWalk.i64_in _ (by omega)
    have hm0 : 0 ≤ q % 8 := by omega
    have hm1 : q % 8 < 8 := by omega
    go_wp2_with fail
    refine wp_region_noPanic ?_
    refine wp_region_grow (fun _ => True) (Ord.ofList [0, 1, 4, 5, 6, 10, 11, 2, 12, 3, 7, 8, 9, 13, 14] .done) [0, 1, 2, 4, 5, 6, 7, 8, 9, 10, 11, 12, 13, 14] (by kernel_rfl) (by kernel_rfl) rfl (by kernel_rfl) (fun _ _ _ _ _ h => h) ?_ (fun hSS => ?_)
    · trivial
    clear hSS
    have HW6 := Lib.hid (step2 HW5.out (stepD1 w5))
    generalize w5.drew = w6 at HW6 ⊢
    (refine wpGrow_mov rfl rfl ?_; intro o ho; simp only [List.getElem?_toArray, List.getElem?_cons_zero, List.getElem?_cons_succ, Option.some.injEq] at ho; subst ho; refine ⟨?_, Or.inl ⟨by rfl, fun W hSW => ?_⟩, ?_⟩; rotate_left; (focus (go_simp; first | done | with_reducible rfl)); try simp only [Act.put, List.setIfInBounds_toArray, List.set_cons_zero, List.set_cons_succ])
    (refine wpGrow_mov rfl rfl ?_; intro o ho; simp only [List.getElem?_toArray, List.getElem?_cons_zero, List.getElem?_cons_succ, Option.some.injEq] at ho; subst ho; refine ⟨?_, Or.inl ⟨by rfl, fun W hSW => ?_⟩, ?_⟩; rotate_left; (focus (go_simp; first | done | with_reducible rfl)); try simp only [Act.put, List.setIfInBounds_toArray, List.set_cons_zero, List.set_cons_succ])
    (refine wpGrow_mov rfl rfl ?_; intro o ho; simp only [List.getElem?_toArray, List.getElem?_cons_zero, List.getElem?_cons_succ, Option.some.injEq] at ho; subst ho; refine ⟨?_, Or.inl ⟨by rfl, fun W hSW => ?_⟩, ?_⟩; rotate_left; (focus (go_simp; first | done | with_reducible rfl)); try simp only [Act.put, List.setIfInBounds_toArray, List.set_cons_zero, List.set_cons_succ])
    (refine wpGrow_mov rfl rfl ?_; intro o ho; simp only [List.getElem?_toArray, List.getElem?_cons_zero, List.getElem?_cons_succ, Option.some.injEq] at ho; subst ho; refine ⟨?_, Or.inl ⟨by rfl, fun W hSW => ?_⟩, ?_⟩; rotate_left; (focus (go_simp; first | done | with_reducible rfl)); try simp only [Act.put, List.setIfInBounds_toArray, List.set_cons_zero, List.set_cons_succ])
    (refine wpGrow_mov rfl rfl ?_; intro o ho; simp only [List.getElem?_toArray, List.getElem?_cons_zero, List.getElem?_cons_succ, Option.some.injEq] at ho; subst ho; refine ⟨?_, Or.inl ⟨by rfl, fun W hSW => ?_⟩, ?_⟩; rotate_left; (focus (go_simp; first | done | with_reducible rfl)); try simp only [Act.put, List.setIfInBounds_toArray, List.set_cons_zero, List.set_cons_succ])
    (refine wpGrow_mov rfl rfl ?_; intro o ho; simp only [List.getElem?_toArray, List.getElem?_cons_zero, List.getElem?_cons_succ, Option.some.injEq] at ho; subst ho; refine ⟨?_, Or.inl ⟨by rfl, fun W hSW => ?_⟩, ?_⟩; rotate_left; (focus (go_simp; first | done | with_reducible rfl)); try simp only [Act.put, List.setIfInBounds_toArray, List.set_cons_zero, List.set_cons_succ])
    (refine wpGrow_mov rfl rfl ?_; intro o ho; simp only [List.getElem?_toArray, List.getElem?_cons_zero, List.getElem?_cons_succ, Option.some.injEq] at ho; subst ho; refine ⟨?_, Or.inl ⟨by rfl, fun W hSW => ?_⟩, ?_⟩; rotate_left; (focus (go_simp; first | done | with_reducible rfl)); try simp only [Act.put, List.setIfInBounds_toArray, List.set_cons_zero, List.set_cons_succ])
    (refine wpGrow_mov rfl rfl ?_; intro o ho; simp only [List.getElem?_toArray, List.getElem?_cons_zero, List.getElem?_cons_succ, Option.some.injEq] at ho; subst ho; refine ⟨?_, Or.inl ⟨by rfl, fun W hSW => ?_⟩, ?_⟩; rotate_left; (focus (go_simp; first | done | with_reducible rfl)); try simp only [Act.put, List.setIfInBounds_toArray, List.set_cons_zero, List.set_cons_succ])
    (refine wpGrow_mov rfl rfl ?_; intro o ho; simp only [List.getElem?_toArray, List.getElem?_cons_zero, List.getElem?_cons_succ, Option.some.injEq] at ho; subst ho; refine ⟨?_, Or.inl ⟨by rfl, fun W hSW => ?_⟩, ?_⟩; rotate_left; (focus (go_simp; first | done | with_reducible rfl)); try simp only [Act.put, List.setIfInBounds_toArray, List.set_cons_zero, List.set_cons_succ])
    have z1 := z0 0 k
    have z2 : (S.extract k S.size).size ≤ 19000 := z0 k S.size
    generalize S.extract 0 k = SC at z1 ⊢
    generalize S.extract k S.size = SD at z2 ⊢
    obtain ⟨SU, hSU⟩ : ∃ SU : ByteArray, SU = ⟨(ps9E.getD (q % 8).toNat []).toArray⟩ := ⟨_, rfl⟩
    have zu : SU.size ≤ 2 := by
      rw [hSU]
      show (ps9E.getD (q % 8).toNat []).toArray.size ≤ _
      rw [List.size_toArray]
      exact ps9E_len _ (by omega)
    have HU := Lib.hid (ps9E_at (q % 8).toNat (by omega))
    rw [← hSU] at HU
    clear hSU
    (refine wpGrow_fix rfl rfl ?_; intro o ho; simp only [List.getElem?_toArray, List.getElem?_cons_zero, List.getElem?_cons_succ, Option.some.injEq] at ho; subst ho; intro K hK)
    go_simp
    have HW7 := Lib.hid (step2 HW6.out (stepA w6 (.cells #[.string ⟨#[40]⟩, .string ⟨#[41]⟩, .string ⟨#[38]⟩, .string ⟨#[45, 62]⟩, .string ⟨#[32]⟩, .string ⟨#[33]⟩, .string ⟨#[91]⟩, .string ⟨#[85]⟩] 9)))
    (refine hK.out _ _ ⟨(fun W => W.cell? ⟨w6.heap.size, (q % 8).toNat, none⟩ = some (.string SU)), (fun _ _ => trivial), ((Blk.new w6 9 #[.string ⟨#[40]⟩, .string ⟨#[41]⟩, .string ⟨#[38]⟩, .string ⟨#[45, 62]⟩, .string ⟨#[32]⟩, .string ⟨#[33]⟩, .string ⟨#[91]⟩, .string ⟨#[85]⟩]).cell _).trans HU.out, ?_⟩; clear hK K; try simp only [Act.put, List.setIfInBounds_toArray, List.set_cons_zero, List.set_cons_succ])
    have hs1 : ¬ 9223372036854775807 < SC.size + SU.size := by omega
    have hs1' : SC.size + SU.size ≤ 9223372036854775807 := by omega
    have hs2 : ¬ 9223372036854775807 < SC.size + SU.size + SD.size := by omega
    have hs2' : SC.size + SU.size + SD.size ≤ 9223372036854775807 := by omega
    have zt2 : (SC ++ SU ++ SD).size ≤ 140737488355328 := by
      rw [ByteArray.size_append, ByteArray.size_append]
      omega
    clear z1 z2 zu
    generalize w6.heap.size = r6
    generalize w6.alloc (.cells #[.string ⟨#[40]⟩, .string ⟨#[41]⟩, .string ⟨#[38]⟩, .string ⟨#[45, 62]⟩, .string ⟨#[32]⟩, .string ⟨#[33]⟩, .string ⟨#[91]⟩, .string ⟨#[85]⟩] 9) = w7 at HW7 ⊢
    (refine wpGrow_mov rfl rfl ?_; intro o ho; simp only [List.getElem?_toArray, List.getElem?_cons_zero, List.getElem?_cons_succ, Option.some.injEq] at ho; subst ho; refine ⟨?_, Or.inl ⟨by rfl, fun W hSW => ?_⟩, ?_⟩; rotate_left; (focus (go_simp; first | done | with_reducible rfl)); try simp only [Act.put, List.setIfInBounds_toArray, List.set_cons_zero, List.set_cons_succ])
    (refine wpGrow_mov rfl rfl ?_; intro o ho; simp only [List.getElem?_toArray, List.getElem?_cons_zero, List.getElem?_cons_succ, Option.some.injEq] at ho; subst ho; refine ⟨?_, Or.inl ⟨by rfl, fun W hSW => ?_⟩, ?_⟩; rotate_left; (focus (go_simp; first | done | with_reducible rfl)); try simp only [Act.put, List.setIfInBounds_toArray, List.set_cons_zero, List.set_cons_succ])
    (refine wpGrow_mov rfl rfl ?_; intro o ho; simp only [List.getElem?_toArray, List.getElem?_cons_zero, List.getElem?_cons_succ, Option.some.injEq] at ho; subst ho; refine ⟨?_, Or.inl ⟨by rfl, fun W hSW => ?_⟩, ?_⟩; rotate_left; (focus (go_simp; first | done | with_reducible rfl)); try simp only [Act.put, List.setIfInBounds_toArray, List.set_cons_zero, List.set_cons_succ])
    (refine wpGrow_mov rfl rfl ?_; intro o ho; simp only [List.getElem?_toArray, List.getElem?_cons_zero, List.getElem?_cons_succ, Option.some.injEq] at ho; subst ho; refine ⟨?_, Or.inl ⟨by rfl, fun W hSW => ?_⟩, ?_⟩; rotate_left; (focus (go_simp; first | done | with_reducible rfl)); try simp only [Act.put, List.setIfInBounds_toArray, List.set_cons_zero, List.set_cons_succ])
    (refine wpGrow_mov rfl rfl ?_; intro o ho; simp only [List.getElem?_toArray, List.getElem?_cons_zero, List.getElem?_cons_succ, Option.some.injEq] at ho; subst ho; refine ⟨?_, Or.inl ⟨by rfl, fun W hSW => ?_⟩, ?_⟩; rotate_left; (focus (go_simp; first | done | with_reducible rfl)); try simp only [Act.put, List.setIfInBounds_toArray, List.set_cons_zero, List.set_cons_succ])
    refine wpGrow_done ?_
    generalize SC ++ SU ++ SD = T2 at zt2 ⊢
    go_wp2_with fail
    refine (awake9_any _).mono ?_
    rintro e v1 ⟨rfl, hb1⟩
    have HB1 := Lib.hid (step2 HW7.out hb1)
    clear hb1
    go_wp2_with fail
    refine (same9_any T2 zt2 _).mono ?_
    rintro e v2 ⟨rfl, hb2⟩
    have HB2 := Lib.hid (step2 HB1.out hb2)
    clear hb2 HB1
    go_wp2_with fail
    go_ret
    exact ⟨rfl, HB2.out⟩
end Go.Proofs.YtijecfmblddanaaGreatDoor
