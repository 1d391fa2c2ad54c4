/- Tokens: the document's letter, signs, sign, quoted, Same. Tokens: the document's quoted. Tokens: the document's Lex. -/
import Derived.Test.YtijecfmblddanaaGreatDoorG1
import Derived.Test.YtijecfmblddanaaGreatDoorG7
set_option linter.unusedVariables false
set_option linter.unusedSimpArgs false
namespace Go.Proofs.YtijecfmblddanaaGreatDoor
open Go.RowKit Go.Maps

set_option maxHeartbeats 400000 in
theorem rletter_any (b : UInt8) (w : World) : Calls Tryz.prog 38 #[.int .u8 (b.toNat : Int)] w fun e w' => e = .returned (.bool (letterB b)) ∧ w' = w := by
  have hlt := b.toNat_lt
  unfold letterB
  generalize b.toNat = n at hlt ⊢
  go_enter Tryz.func38, Tryz.ntmps38
  go_wp2_with fail
  all_goals go_ret
  all_goals (refine ⟨congrArg Ending.returned (congrArg Value.bool ?_), rfl⟩)
  all_goals (rw [Bool.eq_iff_iff]; simp only [Bool.or_eq_true, Bool.and_eq_true, decide_eq_true_eq, beq_iff_eq, true_iff]; omega)

set_option maxHeartbeats 400000 in
theorem rsigns_any (w : World) : Calls Tryz.prog 56 #[] w fun e w' => e = .returned (.slice (some ⟨w.heap.size, 0, none⟩) 9 9) ∧ w' = w.alloc (.cells sgv.toArray 9) := by
  go_enter Tryz.func56, Tryz.ntmps56
  go_wp2_with fail
  go_ret
  exact ⟨rfl, rfl⟩

theorem prefix_take : ∀ (x l : List UInt8), x.isPrefixOf l = (decide (x.length ≤ l.length) && l.take x.length == x)
  | [], l => by simp
  | c :: x, [] => by simp
  | c :: x, d :: l => by
    have ih := prefix_take x l
    simp only [List.isPrefixOf, List.length_cons, List.take_succ_cons]
    rw [ih, Bool.eq_iff_iff]
    simp only [Bool.and_eq_true, beq_iff_eq, decide_eq_true_eq, List.cons.injEq, Nat.add_le_add_iff_right]
    constructor
    · rintro ⟨rfl, h1, h2⟩
      exact ⟨h1, rfl, h2⟩
    · rintro ⟨h1, rfl, h2⟩
      exact ⟨rfl, h1, h2⟩

set_option maxHeartbeats 800000 in
theorem rsign_any (s : ByteArray) (w : World) : Calls Tryz.prog 39 #[.string s] w fun e w' => e = .returned (.int .i64 (signL s.data.toList : Int)) ∧ Below w.heap.size w w' := by
  have hsz : s.data.toList.length = s.size := Array.length_toList
  have hl : ∀ (k : Nat) (x : List UInt8), sgs[k]? = some x → Blk (w.alloc (.cells sgv.toArray 9)) w.heap.size 9 sgv.toArray ∧ sgv.toArray[k]? = some (Value.string ⟨x.toArray⟩) := fun k x h => by
    refine ⟨Blk.new _ _ _, ?_⟩
    rw [List.getElem?_toArray]
    unfold sgv
    rw [List.getElem?_map, h]
    rfl
  have hb : Below w.heap.size w (w.alloc (.cells sgv.toArray 9)) := (Below.refl _ _).alloc (Nat.le_refl _) _
  have hB := Blk.new w 9 sgv.toArray
  go_enter Tryz.func39, Tryz.ntmps39
  go_wp2_with fail
  refine (rsigns_any w).mono ?_
  rintro e w1 ⟨rfl, rfl⟩
  generalize w.alloc (.cells sgv.toArray 9) = w1 at hl hb hB ⊢
  go_wp2_with fail
  go_loopw [4] (fun i wr => ∃ k : Nat, k ≤ 9 ∧ i = .int .i64 k ∧ Below w1.heap.size w1 wr ∧ ∀ j x, j < k → sgs[j]? = some x → x.isPrefixOf s.data.toList = false) (fun i _ => 9 - (intOf i).toNat)
  case atStart => exact ⟨0, by omega, rfl, Below.refl _ _, fun j x h => by omega⟩
  case round =>
    obtain ⟨k, hk, rfl, hbr, hall⟩ := hrel
    by_cases hlt : k < 9
    · have hlt' : (k : Int) < 9 := by omega
      obtain ⟨x, hx⟩ : ∃ x, sgs[k]? = some x := ⟨_, List.getElem?_eq_getElem (by simpa [sgs] using hlt)⟩
      obtain ⟨_, hxv⟩ := hl k x hx
      have hc : wr.cell? ⟨w.heap.size, k, none⟩ = some (.string ⟨x.toArray⟩) := by rw [(hB.below hbr hB.lt).cell k, hxv]
      have hxs : (⟨x.toArray⟩ : ByteArray).size = x.length := by show x.toArray.size = _; rw [List.size_toArray]
      have hpt := prefix_take x s.data.toList
      have hex : ((s.extract 0 x.length).toList == (⟨x.toArray⟩ : ByteArray).toList) = (s.data.toList.take x.length == x) := by
        rw [Lib.toList_data, Lib.toList_data, extract0]
      have hlow : Below w.heap.size w wr := below2 hb hb.size hbr
      rw [hsz] at hpt
      rw [← hxs] at hex hpt
      generalize hX : (⟨x.toArray⟩ : ByteArray) = X at hc hxs hex hpt
      have HX := Lib.hid hX
      have HXS := Lib.hid hxs
      have HXL : Hid (∀ (a : Bool), x.isPrefixOf s.data.toList = a → a = x.isPrefixOf s.data.toList) := fun a h => h.symm
      have HPT := Lib.hid hpt
      have HEX := Lib.hid hex
      have HXV := Lib.hid hxv
      clear hX hxs hpt hex hxv hl hsz
      go_wp2_with fail
      by_cases hlen : X.size ≤ s.size
      · have hlen' : (X.size : Int) ≤ (s.size : Int) := by omega
        cases hpe : ((s.extract 0 X.size).toList == X.toList) with
        | true =>
          have hp : x.isPrefixOf s.data.toList = true := by rw [HPT.out, decide_eq_true hlen, ← HEX.out, hpe]; rfl
          have hr : signL s.data.toList = X.size := by
            unfold signL
            rw [find_at (fun x => x.isPrefixOf s.data.toList) sgs k x hall hx hp, HXS.out]
            rfl
          have HR := Lib.hid hr
          have HP := Lib.hid hp
          clear hp hr
          refine wp_region_noPanic ?_
          refine wp_region_seq (fun W => W.cell? ⟨w.heap.size, k, none⟩ = some (.string X)) [0, 1, 2, 3, 4, 5, 6, 7, 8, 9, 10, 11, 12, 13, 14, 16, 17, 18, 19, 15, 20, 21] [0, 1, 2, 3, 4, 5, 6, 7, 8, 9, 10, 11, 12, 13, 14, 16, 17, 18, 19, 20, 21] [] (by kernel_rfl) (by kernel_rfl) rfl (by kernel_rfl) (by kernel_rfl) (fun _ _ _ _ _ h => h) ?_ (fun hSS => ?_)
          · exact hc
          (refine wpSeq_mov rfl rfl ?_; intro o ho; simp only [List.getElem?_toArray, List.getElem?_cons_zero, List.getElem?_cons_succ, Option.some.injEq] at ho; subst ho; refine ⟨?_, Or.inl ⟨by rfl, fun W hSW => ?_⟩, ?_⟩; rotate_left; (focus (go_simp; first | done | with_reducible rfl)); try simp only [Act.put, List.setIfInBounds_toArray, List.set_cons_zero, List.set_cons_succ])
          (refine wpSeq_mov rfl rfl ?_; intro o ho; simp only [List.getElem?_toArray, List.getElem?_cons_zero, List.getElem?_cons_succ, Option.some.injEq] at ho; subst ho; refine ⟨?_, Or.inl ⟨by rfl, fun W hSW => ?_⟩, ?_⟩; rotate_left; (focus (go_simp; first | done | with_reducible rfl)); try simp only [Act.put, List.setIfInBounds_toArray, List.set_cons_zero, List.set_cons_succ])
          (refine wpSeq_mov rfl rfl ?_; intro o ho; simp only [List.getElem?_toArray, List.getElem?_cons_zero, List.getElem?_cons_succ, Option.some.injEq] at ho; subst ho; refine ⟨?_, Or.inl ⟨by rfl, fun W hSW => ?_⟩, ?_⟩; rotate_left; (focus (go_simp; first | done | with_reducible rfl)); try simp only [Act.put, List.setIfInBounds_toArray, List.set_cons_zero, List.set_cons_succ])
          (refine wpSeq_mov rfl rfl ?_; intro o ho; simp only [List.getElem?_toArray, List.getElem?_cons_zero, List.getElem?_cons_succ, Option.some.injEq] at ho; subst ho; refine ⟨?_, Or.inl ⟨by rfl, fun W hSW => ?_⟩, ?_⟩; rotate_left; (focus (go_simp; first | done | with_reducible rfl)); try simp only [Act.put, List.setIfInBounds_toArray, List.set_cons_zero, List.set_cons_succ])
          (refine wpSeq_mov rfl rfl ?_; intro o ho; simp only [List.getElem?_toArray, List.getElem?_cons_zero, List.getElem?_cons_succ, Option.some.injEq] at ho; subst ho; refine ⟨?_, Or.inl ⟨by rfl, fun W hSW => ?_⟩, ?_⟩; rotate_left; (focus (go_simp; first | done | with_reducible rfl)); try simp only [Act.put, List.setIfInBounds_toArray, List.set_cons_zero, List.set_cons_succ])
          (refine wpSeq_mov rfl rfl ?_; intro o ho; simp only [List.getElem?_toArray, List.getElem?_cons_zero, List.getElem?_cons_succ, Option.some.injEq] at ho; subst ho; refine ⟨?_, Or.inl ⟨by rfl, fun W hSW => ?_⟩, ?_⟩; rotate_left; (focus (go_simp; first | done | with_reducible rfl)); try simp only [Act.put, List.setIfInBounds_toArray, List.set_cons_zero, List.set_cons_succ])
          (refine wpSeq_mov rfl rfl ?_; intro o ho; simp only [List.getElem?_toArray, List.getElem?_cons_zero, List.getElem?_cons_succ, Option.some.injEq] at ho; subst ho; refine ⟨?_, Or.inl ⟨by rfl, fun W hSW => ?_⟩, ?_⟩; rotate_left; (focus (go_simp; first | done | with_reducible rfl)); try simp only [Act.put, List.setIfInBounds_toArray, List.set_cons_zero, List.set_cons_succ])
          (refine wpSeq_mov rfl rfl ?_; intro o ho; simp only [List.getElem?_toArray, List.getElem?_cons_zero, List.getElem?_cons_succ, Option.some.injEq] at ho; subst ho; refine ⟨?_, Or.inl ⟨by rfl, fun W hSW => ?_⟩, ?_⟩; rotate_left; (focus (go_simp; first | done | with_reducible rfl)); try simp only [Act.put, List.setIfInBounds_toArray, List.set_cons_zero, List.set_cons_succ])
          (refine wpSeq_mov rfl rfl ?_; intro o ho; simp only [List.getElem?_toArray, List.getElem?_cons_zero, List.getElem?_cons_succ, Option.some.injEq] at ho; subst ho; refine ⟨?_, Or.inl ⟨by rfl, fun W hSW => ?_⟩, ?_⟩; rotate_left; (focus (go_simp; first | done | with_reducible rfl)); try simp only [Act.put, List.setIfInBounds_toArray, List.set_cons_zero, List.set_cons_succ])
          (refine wpSeq_mov rfl rfl ?_; intro o ho; simp only [List.getElem?_toArray, List.getElem?_cons_zero, List.getElem?_cons_succ, Option.some.injEq] at ho; subst ho; refine ⟨?_, Or.inl ⟨by rfl, fun W hSW => ?_⟩, ?_⟩; rotate_left; (focus (go_simp; first | done | with_reducible rfl)); try simp only [Act.put, List.setIfInBounds_toArray, List.set_cons_zero, List.set_cons_succ])
          (refine wpSeq_mov rfl rfl ?_; intro o ho; simp only [List.getElem?_toArray, List.getElem?_cons_zero, List.getElem?_cons_succ, Option.some.injEq] at ho; subst ho; refine ⟨?_, Or.inl ⟨by rfl, fun W hSW => ?_⟩, ?_⟩; rotate_left; (focus (go_simp; first | done | with_reducible rfl)); try simp only [Act.put, List.setIfInBounds_toArray, List.set_cons_zero, List.set_cons_succ])
          (refine wpSeq_mov rfl rfl ?_; intro o ho; simp only [List.getElem?_toArray, List.getElem?_cons_zero, List.getElem?_cons_succ, Option.some.injEq] at ho; subst ho; refine ⟨?_, Or.inl ⟨by rfl, fun W hSW => ?_⟩, ?_⟩; rotate_left; (focus (go_simp; first | done | with_reducible rfl)); try simp only [Act.put, List.setIfInBounds_toArray, List.set_cons_zero, List.set_cons_succ])
          (refine wpSeq_mov rfl rfl ?_; intro o ho; simp only [List.getElem?_toArray, List.getElem?_cons_zero, List.getElem?_cons_succ, Option.some.injEq] at ho; subst ho; refine ⟨?_, Or.inl ⟨by rfl, fun W hSW => ?_⟩, ?_⟩; rotate_left; (focus (go_simp; first | done | with_reducible rfl)); try simp only [Act.put, List.setIfInBounds_toArray, List.set_cons_zero, List.set_cons_succ])
          (refine wpSeq_mov rfl rfl ?_; intro o ho; simp only [List.getElem?_toArray, List.getElem?_cons_zero, List.getElem?_cons_succ, Option.some.injEq] at ho; subst ho; refine ⟨?_, Or.inl ⟨by rfl, fun W hSW => ?_⟩, ?_⟩; rotate_left; (focus (go_simp; first | done | with_reducible rfl)); try simp only [Act.put, List.setIfInBounds_toArray, List.set_cons_zero, List.set_cons_succ])
          (refine wpSeq_mov rfl rfl ?_; intro o ho; simp only [List.getElem?_toArray, List.getElem?_cons_zero, List.getElem?_cons_succ, Option.some.injEq] at ho; subst ho; refine ⟨?_, Or.inl ⟨by rfl, fun W hSW => ?_⟩, ?_⟩; rotate_left; (focus (go_simp; first | done | with_reducible rfl)); try simp only [Act.put, List.setIfInBounds_toArray, List.set_cons_zero, List.set_cons_succ])
          (refine wpSeq_mov rfl rfl ?_; intro o ho; simp only [List.getElem?_toArray, List.getElem?_cons_zero, List.getElem?_cons_succ, Option.some.injEq] at ho; subst ho; refine ⟨?_, Or.inl ⟨by rfl, fun W hSW => ?_⟩, ?_⟩; rotate_left; (focus (go_simp; first | done | with_reducible rfl)); try simp only [Act.put, List.setIfInBounds_toArray, List.set_cons_zero, List.set_cons_succ])
          (refine wpSeq_mov rfl rfl ?_; intro o ho; simp only [List.getElem?_toArray, List.getElem?_cons_zero, List.getElem?_cons_succ, Option.some.injEq] at ho; subst ho; refine ⟨?_, Or.inl ⟨by rfl, fun W hSW => ?_⟩, ?_⟩; rotate_left; (focus (go_simp; first | done | with_reducible rfl)); try simp only [Act.put, List.setIfInBounds_toArray, List.set_cons_zero, List.set_cons_succ])
          (refine wpSeq_mov rfl rfl ?_; intro o ho; simp only [List.getElem?_toArray, List.getElem?_cons_zero, List.getElem?_cons_succ, Option.some.injEq] at ho; subst ho; refine ⟨?_, Or.inl ⟨by rfl, fun W hSW => ?_⟩, ?_⟩; rotate_left; (focus (go_simp; first | done | with_reducible rfl)); try simp only [Act.put, List.setIfInBounds_toArray, List.set_cons_zero, List.set_cons_succ])
          (refine wpSeq_mov rfl rfl ?_; intro o ho; simp only [List.getElem?_toArray, List.getElem?_cons_zero, List.getElem?_cons_succ, Option.some.injEq] at ho; subst ho; refine ⟨?_, Or.inl ⟨by rfl, fun W hSW => ?_⟩, ?_⟩; rotate_left; (focus (go_simp; first | done | with_reducible rfl)); try simp only [Act.put, List.setIfInBounds_toArray, List.set_cons_zero, List.set_cons_succ])
          (refine wpSeq_fix rfl rfl ?_; intro o ho; simp only [List.getElem?_toArray, List.getElem?_cons_zero, List.getElem?_cons_succ, Option.some.injEq] at ho; subst ho; intro K hK)
          go_simp
          (refine hK.out _ _ (fun _ => hSS) ?_; clear hK K; try simp only [Act.put, List.setIfInBounds_toArray, List.set_cons_zero, List.set_cons_succ])
          (refine wpSeq_mov rfl rfl ?_; intro o ho; simp only [List.getElem?_toArray, List.getElem?_cons_zero, List.getElem?_cons_succ, Option.some.injEq] at ho; subst ho; refine ⟨?_, Or.inl ⟨by rfl, fun W hSW => ?_⟩, ?_⟩; rotate_left; (focus (go_simp; first | done | with_reducible rfl)); try simp only [Act.put, List.setIfInBounds_toArray, List.set_cons_zero, List.set_cons_succ])
          (refine wpSeq_mov rfl rfl ?_; intro o ho; simp only [List.getElem?_toArray, List.getElem?_cons_zero, List.getElem?_cons_succ, Option.some.injEq] at ho; subst ho; refine ⟨?_, Or.inl ⟨by rfl, fun W hSW => ?_⟩, ?_⟩; rotate_left; (focus (go_simp; first | done | with_reducible rfl)); try simp only [Act.put, List.setIfInBounds_toArray, List.set_cons_zero, List.set_cons_succ])
          refine wpSeq_done ?_
          go_wp2_with fail
          go_ret
          rw [HR.out]
          exact ⟨rfl, hlow.drew⟩
        | false =>
          have hp : x.isPrefixOf s.data.toList = false := by rw [HPT.out, ← HEX.out, hpe, Bool.and_false]
          have HP := Lib.hid hp
          clear hp
          refine wp_region_noPanic ?_
          refine wp_region_seq (fun W => W.cell? ⟨w.heap.size, k, none⟩ = some (.string X)) [0, 1, 2, 3, 4, 5, 6, 7, 8, 9, 10, 11, 12, 13, 14, 16, 17, 18, 19, 15, 20, 21] [0, 1, 2, 3, 4, 5, 6, 7, 8, 9, 10, 11, 12, 13, 14, 16, 17, 18, 19, 20, 21] [] (by kernel_rfl) (by kernel_rfl) rfl (by kernel_rfl) (by kernel_rfl) (fun _ _ _ _ _ h => h) ?_ (fun hSS => ?_)
          · exact hc
          (refine wpSeq_mov rfl rfl ?_; intro o ho; simp only [List.getElem?_toArray, List.getElem?_cons_zero, List.getElem?_cons_succ, Option.some.injEq] at ho; subst ho; refine ⟨?_, Or.inl ⟨by rfl, fun W hSW => ?_⟩, ?_⟩; rotate_left; (focus (go_simp; first | done | with_reducible rfl)); try simp only [Act.put, List.setIfInBounds_toArray, List.set_cons_zero, List.set_cons_succ])
          (refine wpSeq_mov rfl rfl ?_; intro o ho; simp only [List.getElem?_toArray, List.getElem?_cons_zero, List.getElem?_cons_succ, Option.some.injEq] at ho; subst ho; refine ⟨?_, Or.inl ⟨by rfl, fun W hSW => ?_⟩, ?_⟩; rotate_left; (focus (go_simp; first | done | with_reducible rfl)); try simp only [Act.put, List.setIfInBounds_toArray, List.set_cons_zero, List.set_cons_succ])
          (refine wpSeq_mov rfl rfl ?_; intro o ho; simp only [List.getElem?_toArray, List.getElem?_cons_zero, List.getElem?_cons_succ, Option.some.injEq] at ho; subst ho; refine ⟨?_, Or.inl ⟨by rfl, fun W hSW => ?_⟩, ?_⟩; rotate_left; (focus (go_simp; first | done | with_reducible rfl)); try simp only [Act.put, List.setIfInBounds_toArray, List.set_cons_zero, List.set_cons_succ])
          (refine wpSeq_mov rfl rfl ?_; intro o ho; simp only [List.getElem?_toArray, List.getElem?_cons_zero, List.getElem?_cons_succ, Option.some.injEq] at ho; subst ho; refine ⟨?_, Or.inl ⟨by rfl, fun W hSW => ?_⟩, ?_⟩; rotate_left; (focus (go_simp; first | done | with_reducible rfl)); try simp only [Act.put, List.setIfInBounds_toArray, List.set_cons_zero, List.set_cons_succ])
          (refine wpSeq_mov rfl rfl ?_; intro o ho; simp only [List.getElem?_toArray, List.getElem?_cons_zero, List.getElem?_cons_succ, Option.some.injEq] at ho; subst ho; refine ⟨?_, Or.inl ⟨by rfl, fun W hSW => ?_⟩, ?_⟩; rotate_left; (focus (go_simp; first | done | with_reducible rfl)); try simp only [Act.put, List.setIfInBounds_toArray, List.set_cons_zero, List.set_cons_succ])
          (refine wpSeq_mov rfl rfl ?_; intro o ho; simp only [List.getElem?_toArray, List.getElem?_cons_zero, List.getElem?_cons_succ, Option.some.injEq] at ho; subst ho; refine ⟨?_, Or.inl ⟨by rfl, fun W hSW => ?_⟩, ?_⟩; rotate_left; (focus (go_simp; first | done | with_reducible rfl)); try simp only [Act.put, List.setIfInBounds_toArray, List.set_cons_zero, List.set_cons_succ])
          (refine wpSeq_mov rfl rfl ?_; intro o ho; simp only [List.getElem?_toArray, List.getElem?_cons_zero, List.getElem?_cons_succ, Option.some.injEq] at ho; subst ho; refine ⟨?_, Or.inl ⟨by rfl, fun W hSW => ?_⟩, ?_⟩; rotate_left; (focus (go_simp; first | done | with_reducible rfl)); try simp only [Act.put, List.setIfInBounds_toArray, List.set_cons_zero, List.set_cons_succ])
          (refine wpSeq_mov rfl rfl ?_; intro o ho; simp only [List.getElem?_toArray, List.getElem?_cons_zero, List.getElem?_cons_succ, Option.some.injEq] at ho; subst ho; refine ⟨?_, Or.inl ⟨by rfl, fun W hSW => ?_⟩, ?_⟩; rotate_left; (focus (go_simp; first | done | with_reducible rfl)); try simp only [Act.put, List.setIfInBounds_toArray, List.set_cons_zero, List.set_cons_succ])
          (refine wpSeq_mov rfl rfl ?_; intro o ho; simp only [List.getElem?_toArray, List.getElem?_cons_zero, List.getElem?_cons_succ, Option.some.injEq] at ho; subst ho; refine ⟨?_, Or.inl ⟨by rfl, fun W hSW => ?_⟩, ?_⟩; rotate_left; (focus (go_simp; first | done | with_reducible rfl)); try simp only [Act.put, List.setIfInBounds_toArray, List.set_cons_zero, List.set_cons_succ])
          (refine wpSeq_mov rfl rfl ?_; intro o ho; simp only [List.getElem?_toArray, List.getElem?_cons_zero, List.getElem?_cons_succ, Option.some.injEq] at ho; subst ho; refine ⟨?_, Or.inl ⟨by rfl, fun W hSW => ?_⟩, ?_⟩; rotate_left; (focus (go_simp; first | done | with_reducible rfl)); try simp only [Act.put, List.setIfInBounds_toArray, List.set_cons_zero, List.set_cons_succ])
          (refine wpSeq_mov rfl rfl ?_; intro o ho; simp only [List.getElem?_toArray, List.getElem?_cons_zero, List.getElem?_cons_succ, Option.some.injEq] at ho; subst ho; refine ⟨?_, Or.inl ⟨by rfl, fun W hSW => ?_⟩, ?_⟩; rotate_left; (focus (go_simp; first | done | with_reducible rfl)); try simp only [Act.put, List.setIfInBounds_toArray, List.set_cons_zero, List.set_cons_succ])
          (refine wpSeq_mov rfl rfl ?_; intro o ho; simp only [List.getElem?_toArray, List.getElem?_cons_zero, List.getElem?_cons_succ, Option.some.injEq] at ho; subst ho; refine ⟨?_, Or.inl ⟨by rfl, fun W hSW => ?_⟩, ?_⟩; rotate_left; (focus (go_simp; first | done | with_reducible rfl)); try simp only [Act.put, List.setIfInBounds_toArray, List.set_cons_zero, List.set_cons_succ])
          (refine wpSeq_mov rfl rfl ?_; intro o ho; simp only [List.getElem?_toArray, List.getElem?_cons_zero, List.getElem?_cons_succ, Option.some.injEq] at ho; subst ho; refine ⟨?_, Or.inl ⟨by rfl, fun W hSW => ?_⟩, ?_⟩; rotate_left; (focus (go_simp; first | done | with_reducible rfl)); try simp only [Act.put, List.setIfInBounds_toArray, List.set_cons_zero, List.set_cons_succ])
          (refine wpSeq_mov rfl rfl ?_; intro o ho; simp only [List.getElem?_toArray, List.getElem?_cons_zero, List.getElem?_cons_succ, Option.some.injEq] at ho; subst ho; refine ⟨?_, Or.inl ⟨by rfl, fun W hSW => ?_⟩, ?_⟩; rotate_left; (focus (go_simp; first | done | with_reducible rfl)); try simp only [Act.put, List.setIfInBounds_toArray, List.set_cons_zero, List.set_cons_succ])
          (refine wpSeq_mov rfl rfl ?_; intro o ho; simp only [List.getElem?_toArray, List.getElem?_cons_zero, List.getElem?_cons_succ, Option.some.injEq] at ho; subst ho; refine ⟨?_, Or.inl ⟨by rfl, fun W hSW => ?_⟩, ?_⟩; rotate_left; (focus (go_simp; first | done | with_reducible rfl)); try simp only [Act.put, List.setIfInBounds_toArray, List.set_cons_zero, List.set_cons_succ])
          (refine wpSeq_mov rfl rfl ?_; intro o ho; simp only [List.getElem?_toArray, List.getElem?_cons_zero, List.getElem?_cons_succ, Option.some.injEq] at ho; subst ho; refine ⟨?_, Or.inl ⟨by rfl, fun W hSW => ?_⟩, ?_⟩; rotate_left; (focus (go_simp; first | done | with_reducible rfl)); try simp only [Act.put, List.setIfInBounds_toArray, List.set_cons_zero, List.set_cons_succ])
          (refine wpSeq_mov rfl rfl ?_; intro o ho; simp only [List.getElem?_toArray, List.getElem?_cons_zero, List.getElem?_cons_succ, Option.some.injEq] at ho; subst ho; refine ⟨?_, Or.inl ⟨by rfl, fun W hSW => ?_⟩, ?_⟩; rotate_left; (focus (go_simp; first | done | with_reducible rfl)); try simp only [Act.put, List.setIfInBounds_toArray, List.set_cons_zero, List.set_cons_succ])
          (refine wpSeq_mov rfl rfl ?_; intro o ho; simp only [List.getElem?_toArray, List.getElem?_cons_zero, List.getElem?_cons_succ, Option.some.injEq] at ho; subst ho; refine ⟨?_, Or.inl ⟨by rfl, fun W hSW => ?_⟩, ?_⟩; rotate_left; (focus (go_simp; first | done | with_reducible rfl)); try simp only [Act.put, List.setIfInBounds_toArray, List.set_cons_zero, List.set_cons_succ])
          (refine wpSeq_mov rfl rfl ?_; intro o ho; simp only [List.getElem?_toArray, List.getElem?_cons_zero, List.getElem?_cons_succ, Option.some.injEq] at ho; subst ho; refine ⟨?_, Or.inl ⟨by rfl, fun W hSW => ?_⟩, ?_⟩; rotate_left; (focus (go_simp; first | done | with_reducible rfl)); try simp only [Act.put, List.setIfInBounds_toArray, List.set_cons_zero, List.set_cons_succ])
          (refine wpSeq_fix rfl rfl ?_; intro o ho; simp only [List.getElem?_toArray, List.getElem?_cons_zero, List.getElem?_cons_succ, Option.some.injEq] at ho; subst ho; intro K hK)
          go_simp
          (refine hK.out _ _ (fun _ => hSS) ?_; clear hK K; try simp only [Act.put, List.setIfInBounds_toArray, List.set_cons_zero, List.set_cons_succ])
          (refine wpSeq_mov rfl rfl ?_; intro o ho; simp only [List.getElem?_toArray, List.getElem?_cons_zero, List.getElem?_cons_succ, Option.some.injEq] at ho; subst ho; refine ⟨?_, Or.inl ⟨by rfl, fun W hSW => ?_⟩, ?_⟩; rotate_left; (focus (go_simp; first | done | with_reducible rfl)); try simp only [Act.put, List.setIfInBounds_toArray, List.set_cons_zero, List.set_cons_succ])
          (refine wpSeq_mov rfl rfl ?_; intro o ho; simp only [List.getElem?_toArray, List.getElem?_cons_zero, List.getElem?_cons_succ, Option.some.injEq] at ho; subst ho; refine ⟨?_, Or.inl ⟨by rfl, fun W hSW => ?_⟩, ?_⟩; rotate_left; (focus (go_simp; first | done | with_reducible rfl)); try simp only [Act.put, List.setIfInBounds_toArray, List.set_cons_zero, List.set_cons_succ])
          refine wpSeq_done ?_
          go_wp2_with fail
          go_roundw
          case rel =>
            refine ⟨k + 1, by omega, by go_num, hbr.drew, fun j y hj hy => ?_⟩
            by_cases e : j = k
            · subst e
              rw [hx] at hy
              cases hy
              exact HP.out
            · exact hall j y (by omega) hy
          case measure => simp [intOf]; omega
      · have hlen' : ¬ ((X.size : Int) ≤ (s.size : Int)) := by omega
        have hp : x.isPrefixOf s.data.toList = false := by rw [HPT.out, decide_eq_false hlen, Bool.false_and]
        have HP := Lib.hid hp
        clear hp
        refine wp_region_noPanic ?_
        refine wp_region_seq (fun W => W.cell? ⟨w.heap.size, k, none⟩ = some (.string X)) [0, 1, 2, 3, 4, 5, 6, 7, 8, 9, 10, 11, 12, 13, 14, 16, 17, 18, 19, 15, 20, 21] [0, 1, 2, 3, 4, 5, 6, 7, 8, 9, 10, 11, 12, 13, 14, 16, 17, 18, 19, 20, 21] [] (by kernel_rfl) (by kernel_rfl) rfl (by kernel_rfl) (by kernel_rfl) (fun _ _ _ _ _ h => h) ?_ (fun hSS => ?_)
        · exact hc
        (refine wpSeq_mov rfl rfl ?_; intro o ho; simp only [List.getElem?_toArray, List.getElem?_cons_zero, List.getElem?_cons_succ, Option.some.injEq] at ho; subst ho; refine ⟨?_, Or.inl ⟨by rfl, fun W hSW => ?_⟩, ?_⟩; rotate_left; (focus (go_simp; first | done | with_reducible rfl)); try simp only [Act.put, List.setIfInBounds_toArray, List.set_cons_zero, List.set_cons_succ])
        (refine wpSeq_mov rfl rfl ?_; intro o ho; simp only [List.getElem?_toArray, List.getElem?_cons_zero, List.getElem?_cons_succ, Option.some.injEq] at ho; subst ho; refine ⟨?_, Or.inl ⟨by rfl, fun W hSW => ?_⟩, ?_⟩; rotate_left; (focus (go_simp; first | done | with_reducible rfl)); try simp only [Act.put, List.setIfInBounds_toArray, List.set_cons_zero, List.set_cons_succ])
        (refine wpSeq_mov rfl rfl ?_; intro o ho; simp only [List.getElem?_toArray, List.getElem?_cons_zero, List.getElem?_cons_succ, Option.some.injEq] at ho; subst ho; refine ⟨?_, Or.inl ⟨by rfl, fun W hSW => ?_⟩, ?_⟩; rotate_left; (focus (go_simp; first | done | with_reducible rfl)); try simp only [Act.put, List.setIfInBounds_toArray, List.set_cons_zero, List.set_cons_succ])
        (refine wpSeq_mov rfl rfl ?_; intro o ho; simp only [List.getElem?_toArray, List.getElem?_cons_zero, List.getElem?_cons_succ, Option.some.injEq] at ho; subst ho; refine ⟨?_, Or.inl ⟨by rfl, fun W hSW => ?_⟩, ?_⟩; rotate_left; (focus (go_simp; first | done | with_reducible rfl)); try simp only [Act.put, List.setIfInBounds_toArray, List.set_cons_zero, List.set_cons_succ])
        (refine wpSeq_mov rfl rfl ?_; intro o ho; simp only [List.getElem?_toArray, List.getElem?_cons_zero, List.getElem?_cons_succ, Option.some.injEq] at ho; subst ho; refine ⟨?_, Or.inl ⟨by rfl, fun W hSW => ?_⟩, ?_⟩; rotate_left; (focus (go_simp; first | done | with_reducible rfl)); try simp only [Act.put, List.setIfInBounds_toArray, List.set_cons_zero, List.set_cons_succ])
        (refine wpSeq_mov rfl rfl ?_; intro o ho; simp only [List.getElem?_toArray, List.getElem?_cons_zero, List.getElem?_cons_succ, Option.some.injEq] at ho; subst ho; refine ⟨?_, Or.inl ⟨by rfl, fun W hSW => ?_⟩, ?_⟩; rotate_left; (focus (go_simp; first | done | with_reducible rfl)); try simp only [Act.put, List.setIfInBounds_toArray, List.set_cons_zero, List.set_cons_succ])
        (refine wpSeq_mov rfl rfl ?_; intro o ho; simp only [List.getElem?_toArray, List.getElem?_cons_zero, List.getElem?_cons_succ, Option.some.injEq] at ho; subst ho; refine ⟨?_, Or.inl ⟨by rfl, fun W hSW => ?_⟩, ?_⟩; rotate_left; (focus (go_simp; first | done | with_reducible rfl)); try simp only [Act.put, List.setIfInBounds_toArray, List.set_cons_zero, List.set_cons_succ])
        (refine wpSeq_mov rfl rfl ?_; intro o ho; simp only [List.getElem?_toArray, List.getElem?_cons_zero, List.getElem?_cons_succ, Option.some.injEq] at ho; subst ho; refine ⟨?_, Or.inl ⟨by rfl, fun W hSW => ?_⟩, ?_⟩; rotate_left; (focus (go_simp; first | done | with_reducible rfl)); try simp only [Act.put, List.setIfInBounds_toArray, List.set_cons_zero, List.set_cons_succ])
        (refine wpSeq_mov rfl rfl ?_; intro o ho; simp only [List.getElem?_toArray, List.getElem?_cons_zero, List.getElem?_cons_succ, Option.some.injEq] at ho; subst ho; refine ⟨?_, Or.inl ⟨by rfl, fun W hSW => ?_⟩, ?_⟩; rotate_left; (focus (go_simp; first | done | with_reducible rfl)); try simp only [Act.put, List.setIfInBounds_toArray, List.set_cons_zero, List.set_cons_succ])
        (refine wpSeq_mov rfl rfl ?_; intro o ho; simp only [List.getElem?_toArray, List.getElem?_cons_zero, List.getElem?_cons_succ, Option.some.injEq] at ho; subst ho; refine ⟨undef, Or.inr ⟨by rfl, rfl⟩, ?_⟩; try simp only [Act.put, List.setIfInBounds_toArray, List.set_cons_zero, List.set_cons_succ])
        (refine wpSeq_mov rfl rfl ?_; intro o ho; simp only [List.getElem?_toArray, List.getElem?_cons_zero, List.getElem?_cons_succ, Option.some.injEq] at ho; subst ho; refine ⟨undef, Or.inr ⟨by rfl, rfl⟩, ?_⟩; try simp only [Act.put, List.setIfInBounds_toArray, List.set_cons_zero, List.set_cons_succ])
        (refine wpSeq_mov rfl rfl ?_; intro o ho; simp only [List.getElem?_toArray, List.getElem?_cons_zero, List.getElem?_cons_succ, Option.some.injEq] at ho; subst ho; refine ⟨undef, Or.inr ⟨by rfl, rfl⟩, ?_⟩; try simp only [Act.put, List.setIfInBounds_toArray, List.set_cons_zero, List.set_cons_succ])
        (refine wpSeq_mov rfl rfl ?_; intro o ho; simp only [List.getElem?_toArray, List.getElem?_cons_zero, List.getElem?_cons_succ, Option.some.injEq] at ho; subst ho; refine ⟨undef, Or.inr ⟨by rfl, rfl⟩, ?_⟩; try simp only [Act.put, List.setIfInBounds_toArray, List.set_cons_zero, List.set_cons_succ])
        (refine wpSeq_mov rfl rfl ?_; intro o ho; simp only [List.getElem?_toArray, List.getElem?_cons_zero, List.getElem?_cons_succ, Option.some.injEq] at ho; subst ho; refine ⟨undef, Or.inr ⟨by rfl, rfl⟩, ?_⟩; try simp only [Act.put, List.setIfInBounds_toArray, List.set_cons_zero, List.set_cons_succ])
        (refine wpSeq_mov rfl rfl ?_; intro o ho; simp only [List.getElem?_toArray, List.getElem?_cons_zero, List.getElem?_cons_succ, Option.some.injEq] at ho; subst ho; refine ⟨undef, Or.inr ⟨by rfl, rfl⟩, ?_⟩; try simp only [Act.put, List.setIfInBounds_toArray, List.set_cons_zero, List.set_cons_succ])
        (refine wpSeq_mov rfl rfl ?_; intro o ho; simp only [List.getElem?_toArray, List.getElem?_cons_zero, List.getElem?_cons_succ, Option.some.injEq] at ho; subst ho; refine ⟨undef, Or.inr ⟨by rfl, rfl⟩, ?_⟩; try simp only [Act.put, List.setIfInBounds_toArray, List.set_cons_zero, List.set_cons_succ])
        (refine wpSeq_mov rfl rfl ?_; intro o ho; simp only [List.getElem?_toArray, List.getElem?_cons_zero, List.getElem?_cons_succ, Option.some.injEq] at ho; subst ho; refine ⟨undef, Or.inr ⟨by rfl, rfl⟩, ?_⟩; try simp only [Act.put, List.setIfInBounds_toArray, List.set_cons_zero, List.set_cons_succ])
        (refine wpSeq_mov rfl rfl ?_; intro o ho; simp only [List.getElem?_toArray, List.getElem?_cons_zero, List.getElem?_cons_succ, Option.some.injEq] at ho; subst ho; refine ⟨undef, Or.inr ⟨by rfl, rfl⟩, ?_⟩; try simp only [Act.put, List.setIfInBounds_toArray, List.set_cons_zero, List.set_cons_succ])
        (refine wpSeq_mov rfl rfl ?_; intro o ho; simp only [List.getElem?_toArray, List.getElem?_cons_zero, List.getElem?_cons_succ, Option.some.injEq] at ho; subst ho; refine ⟨undef, Or.inr ⟨by rfl, rfl⟩, ?_⟩; try simp only [Act.put, List.setIfInBounds_toArray, List.set_cons_zero, List.set_cons_succ])
        (refine wpSeq_fix rfl rfl ?_; intro o ho; simp only [List.getElem?_toArray, List.getElem?_cons_zero, List.getElem?_cons_succ, Option.some.injEq] at ho; subst ho; intro K hK)
        go_simp
        (refine hK.out _ _ (fun _ => hSS) ?_; clear hK K; try simp only [Act.put, List.setIfInBounds_toArray, List.set_cons_zero, List.set_cons_succ])
        (refine wpSeq_mov rfl rfl ?_; intro o ho; simp only [List.getElem?_toArray, List.getElem?_cons_zero, List.getElem?_cons_succ, Option.some.injEq] at ho; subst ho; refine ⟨undef, Or.inr ⟨by rfl, rfl⟩, ?_⟩; try simp only [Act.put, List.setIfInBounds_toArray, List.set_cons_zero, List.set_cons_succ])
        (refine wpSeq_mov rfl rfl ?_; intro o ho; simp only [List.getElem?_toArray, List.getElem?_cons_zero, List.getElem?_cons_succ, Option.some.injEq] at ho; subst ho; refine ⟨?_, Or.inl ⟨by rfl, fun W hSW => ?_⟩, ?_⟩; rotate_left; (focus (go_simp; first | done | with_reducible rfl)); try simp only [Act.put, List.setIfInBounds_toArray, List.set_cons_zero, List.set_cons_succ])
        refine wpSeq_done ?_
        go_wp2_with fail
        go_roundw
        case rel =>
          refine ⟨k + 1, by omega, by go_num, hbr.drew, fun j y hj hy => ?_⟩
          by_cases e : j = k
          · subst e
            rw [hx] at hy
            cases hy
            exact HP.out
          · exact hall j y (by omega) hy
        case measure => simp [intOf]; omega
    · obtain rfl : k = 9 := by omega
      have hr : signL s.data.toList = 0 := by
        unfold signL
        rw [find_none (fun x => x.isPrefixOf s.data.toList) sgs (fun j y hy => hall j y (by have := (List.getElem?_eq_some_iff.1 hy).1; simpa [sgs] using this) hy)]
        rfl
      have hlow : Below w.heap.size w wr := below2 hb hb.size hbr
      go_wp2_with fail
      go_ret
      rw [hr]
      exact ⟨rfl, hlow⟩

end Go.Proofs.YtijecfmblddanaaGreatDoor

set_option linter.unusedVariables false
set_option linter.unusedSimpArgs false
namespace Go.Proofs.YtijecfmblddanaaGreatDoor
open Go.RowKit Go.Maps

set_option maxHeartbeats 800000 in
theorem quoted_any (s : ByteArray) (hs : s.size ≤ 9223372036854775806) (w : World) : Calls Tryz.prog 40 #[.string s] w fun e w' => e = .returned (.int .i64 (quotL s.data.toList : Int)) ∧ w' = w := by
  have hsz : s.data.toList.length = s.size := Array.length_toList
  have hq : quotL s.data.toList = if 1 + runL innerB (s.data.toList.drop 1) < 2 then 0 else if (s.data.toList[1 + runL innerB (s.data.toList.drop 1)]?).map UInt8.toNat = some 34 then 1 + runL innerB (s.data.toList.drop 1) + 1 else 0 := rfl
  have HQ := Lib.hid hq
  have HSZ := Lib.hid hsz
  clear hq hsz
  go_enter Tryz.func40, Tryz.ntmps40
  go_wp2_with fail
  go_loopw [3] (fun i wr => ∃ k : Nat, 1 ≤ k ∧ (k ≤ s.size ∨ k = 1) ∧ i = .int .i64 k ∧ wr = w ∧ ∀ j b, 1 ≤ j → j < k → s.data.toList[j]? = some b → innerB b = true) (fun i _ => s.size - (intOf i).toNat)
  case atStart => exact ⟨1, Nat.le_refl _, .inr rfl, rfl, rfl, fun j b h h2 => by omega⟩
  case round =>
    obtain ⟨k, hk1, hk, rfl, rfl, hall⟩ := hrel
    have hall' : ∀ j b, j < k - 1 → (s.data.toList.drop 1)[j]? = some b → innerB b = true := fun j b hj hb => by
      rw [List.getElem?_drop] at hb
      exact hall (1 + j) b (by omega) (by omega) hb
    by_cases hlt : k < s.size
    · have hlt' : (k : Int) < (s.size : Int) := by omega
      have hb : s.data.toList[k]? = some s[k] := by
        rw [List.getElem?_eq_getElem (by have := HSZ.out; omega)]
        rfl
      have hb' : (s.data.toList.drop 1)[k - 1]? = some s[k] := by
        rw [List.getElem?_drop, show 1 + (k - 1) = k from by omega]
        exact hb
      have HB := Lib.hid hb
      have HB' := Lib.hid hb'
      have hbl := s[k].toNat_lt
      have HIN : Hid (innerB s[k] = (decide (32 < s[k].toNat) && decide (s[k].toNat ≤ 126) && !decide (s[k].toNat = 34))) := Lib.hid rfl
      have HR : Hid (innerB s[k] = false → runL innerB (s.data.toList.drop 1) = k - 1) := Lib.hid (fun hf => runL_at innerB _ _ hall' (by rw [List.length_drop, HSZ.out]; omega) (.inr ⟨_, hb', hf⟩))
      have HALL := Lib.hid hall
      clear hb hb' hall hall'
      by_cases hc : s[k].toNat = 34
      · have hcc : ((s[k].toNat : Int) == 34) = true := by simp; omega
        have hin : innerB s[k] = false := by rw [HIN.out, hc]; rfl
        have hr := HR.out hin
        by_cases h2 : k < 2
        · have h2' : (k : Int) < 2 := by omega
          have HE : Hid (quotL s.data.toList = 0) := Lib.hid (by rw [HQ.out, hr, if_pos (by omega)])
          clear hr hin hc
          go_wp2_with fail
          go_ret
          rw [HE.out]
          exact ⟨rfl, rfl⟩
        · have h2' : ¬ ((k : Int) < 2) := by omega
          have HE : Hid (quotL s.data.toList = k + 1) := Lib.hid (by
            rw [HQ.out, hr, if_neg (by omega), show 1 + (k - 1) = k from by omega, HB.out, if_pos (by simpa using hc)])
          clear hr hin hc
          go_wp2_with fail
          go_ret
          rw [HE.out]
          exact ⟨congrArg Ending.returned (congrArg (Value.int .i64) (by omega)), rfl⟩
      · have hcc : ((s[k].toNat : Int) == 34) = false := by simp; omega
        cases hin : innerB s[k] with
        | true =>
          have hin' := hin
          rw [HIN.out] at hin'
          simp only [Bool.and_eq_true, decide_eq_true_eq] at hin'
          have h3 : ¬ ((s[k].toNat : Int) < 33) := by omega
          have h4 : ¬ ((126 : Int) < (s[k].toNat : Int)) := by omega
          have HI := Lib.hid hin
          clear hin hin' hc
          go_wp2_with fail
          go_roundw
          case rel =>
            refine ⟨k + 1, by omega, .inl (by omega), by go_num, (by first | rfl | trivial), fun j b h1 hj hjb => ?_⟩
            by_cases e : j = k
            · subst e
              have := HB.out
              rw [this] at hjb
              cases hjb
              exact HI.out
            · exact HALL.out j b h1 (by omega) hjb
          case measure => simp [intOf]; omega
        | false =>
          have hr := HR.out hin
          have HE : Hid (quotL s.data.toList = 0) := Lib.hid (by
            rw [HQ.out, hr]
            by_cases h2 : 1 + (k - 1) < 2
            · rw [if_pos h2]
            · rw [if_neg h2, show 1 + (k - 1) = k from by omega, HB.out, if_neg (by simpa using hc)])
          have hin' := hin
          rw [HIN.out] at hin'
          clear hr hin
          by_cases h3 : (s[k].toNat : Int) < 33
          · clear hin' hc
            go_wp2_with fail
            go_ret
            rw [HE.out]
            exact ⟨rfl, rfl⟩
          · have h4 : (126 : Int) < (s[k].toNat : Int) := by
              have h5 : ¬ s[k].toNat ≤ 126 := fun h => by
                rw [decide_eq_true (show 32 < s[k].toNat by omega), decide_eq_true h, decide_eq_false hc] at hin'
                cases hin'
              omega
            clear hin' hc
            go_wp2_with fail
            go_ret
            rw [HE.out]
            exact ⟨rfl, rfl⟩
    · have hlt' : ¬ ((k : Int) < (s.size : Int)) := by omega
      have HE : Hid (quotL s.data.toList = 0) := Lib.hid (by
        have hsz := HSZ.out
        have hr : runL innerB (s.data.toList.drop 1) = s.size - 1 := by
          refine runL_at innerB _ _ (fun j b hj hb => hall' j b (by omega) hb) (by rw [List.length_drop]; omega) (.inl (by rw [List.length_drop]; omega))
        rw [HQ.out, hr]
        by_cases h2 : 1 + (s.size - 1) < 2
        · rw [if_pos h2]
        · rw [if_neg h2, List.getElem?_eq_none (by omega)]
          rfl)
      clear hall hall'
      go_wp2_with fail
      go_ret
      rw [HE.out]
      exact ⟨rfl, rfl⟩

theorem tk_name {c : UInt8} {d : List UInt8} (a : Nat) (hb : blankB c = false) (hn : 0 < nameL (c :: d)) : items (c :: d) a = (⟨1, (c :: d).take (nameL (c :: d)), a⟩, true) :: items ((c :: d).drop (nameL (c :: d))) (a + nameL (c :: d)) := by
  have h := items_eq (c :: d) a
  have e : (c :: d).dropWhile blankB = c :: d := by simp [List.dropWhile, hb]
  rw [e, if_neg (by simp), if_pos hn, Nat.sub_self, Nat.add_zero] at h
  exact h
theorem tk_sign {c : UInt8} {d : List UInt8} (a : Nat) (hb : blankB c = false) (hn : nameL (c :: d) = 0) (hs : 0 < signL (c :: d)) : items (c :: d) a = (⟨2, (c :: d).take (signL (c :: d)), a⟩, true) :: items ((c :: d).drop (signL (c :: d))) (a + signL (c :: d)) := by
  have h := items_eq (c :: d) a
  have e : (c :: d).dropWhile blankB = c :: d := by simp [List.dropWhile, hb]
  rw [e, if_neg (by simp), if_neg (by omega), if_pos hs, Nat.sub_self, Nat.add_zero] at h
  exact h
theorem tk_none {c : UInt8} {d : List UInt8} (a : Nat) (hb : blankB c = false) (hn : nameL (c :: d) = 0) (hs : signL (c :: d) = 0) : items (c :: d) a = [(⟨2, [], a⟩, false)] := by
  have h := items_eq (c :: d) a
  have e : (c :: d).dropWhile blankB = c :: d := by simp [List.dropWhile, hb]
  rw [e, if_neg (by simp), if_neg (by omega), if_neg (by omega), Nat.sub_self, Nat.add_zero] at h
  exact h
theorem tk_end (a : Nat) : items [] a = [(⟨0, [], a⟩, true)] := by
  have h := items_eq [] a
  simpa using h

theorem letter_not (c : UInt8) : blankB c = true → letterB c = false := by
  unfold blankB letterB
  intro h
  simp only [Bool.or_eq_true, decide_eq_true_eq] at h
  rw [Bool.eq_false_iff]
  intro h2
  simp only [Bool.or_eq_true, Bool.and_eq_true, decide_eq_true_eq] at h2
  omega
theorem letter_quote (c : UInt8) (h : c.toNat = 34) : letterB c = false := by
  unfold letterB
  rw [h]
  rfl
end Go.Proofs.YtijecfmblddanaaGreatDoor

set_option linter.unusedVariables false
set_option linter.unusedSimpArgs false
namespace Go.Proofs.YtijecfmblddanaaGreatDoor
open Go.RowKit Go.Maps

theorem drop_cons (l : List UInt8) (i : Nat) (c : UInt8) (h : l[i]? = some c) : l.drop i = c :: l.drop (i + 1) := by
  have hlt := (List.getElem?_eq_some_iff.1 h).1
  rw [List.drop_eq_getElem_cons hlt]
  congr 1
  rw [List.getElem?_eq_getElem hlt] at h
  exact Option.some.inj h

theorem extract_tk (s : ByteArray) (i n : Nat) : s.extract i (i + n) = ⟨((s.data.toList.drop i).take n).toArray⟩ := by
  have h := Lib.extract_data s i (i + n)
  rw [Nat.add_sub_cancel_left] at h
  cases hx : s.extract i (i + n) with
  | mk d =>
    rw [hx] at h
    rw [← h]

set_option maxRecDepth 100000 in
set_option maxHeartbeats 4000000 in
theorem rlex_new (s : ByteArray) (hs : s.size ≤ 140737488355328) (w : World) : Calls Tryz.prog 25 #[.string s] w (RetTkN w (lexOf s.data.toList)) := by
  have hsd : s.data.toList.length = s.size := Array.length_toList
  by_cases hlong : 20000 < s.size
  · have hlong' : (20000 : Int) < (s.size : Int) := by omega
    have HL : Hid (lexOf s.data.toList = ([], 2, 0)) := by show lexOf _ = _; unfold lexOf; rw [hsd, if_pos hlong]
    clear hsd
    go_enter Tryz.func25, Tryz.ntmps25
    go_wp2_with fail
    go_ret3
    rw [HL.out]
    exact ⟨none, 0, rfl, Nat.le_refl _, Vals.nil, Below.refl _ _, fun b o e => by cases e⟩
  · have hlong' : ¬ ((20000 : Int) < (s.size : Int)) := by omega
    have HSD := Lib.hid hsd
    have hil := items_len _ s.data.toList 0 (Nat.lt_succ_self _)
    have hL : (items s.data.toList 0).length ≤ 20001 := by omega
    obtain ⟨i0, hi0, hz0, hz1, hz2⟩ := info_parts tokInfo
    clear hsd hil
    go_enter Tryz.func25, Tryz.ntmps25
    go_wp2_with fail
    go_loopw [5, 6] (fun v iv wr => ∃ (i : Nat) (pre : List (Tk × Bool)), i ≤ s.size ∧ iv = .int .i64 (i : Int) ∧ items s.data.toList 0 = pre ++ items (s.data.toList.drop i) i ∧ (∀ x ∈ pre, x.2 = true) ∧ wr.ownsRow w.heap.size 53 3 v pre.length (flatTk (pre.map Prod.fst)) ∧ Below w.heap.size w wr)
      (fun _ iv _ => s.size - (intOf iv).toNat)
    case atStart => exact ⟨0, [], Nat.zero_le _, rfl, rfl, (fun x h => by cases h), World.ownsRow_nil _ _ _ _, Below.refl _ _⟩
    case round =>
      obtain ⟨i, pre, hi, rfl, hit, hok, hown, hlow⟩ := hrel
      obtain ⟨A, c, rfl, hcn⟩ := own_form hown
      have hpl : pre.length ≤ 20000 := by
        rw [hit, List.length_append] at hL
        have : 0 < (items (s.data.toList.drop i) i).length := by
          rw [items_eq]
          split
          · simp
          · split
            · simp
            · split <;> simp
        omega
      have HIT := Lib.hid hit
      have HOK := Lib.hid hok
      have HO := Lib.hid hown
      have HLOW := Lib.hid hlow
      have hsz0 := hlow.size
      clear hit hok hown hlow
      by_cases hlt : i < s.size
      · have hlt' : (i : Int) < (s.size : Int) := by omega
        have hb : s.data.toList[i]? = some s[i] := by
          rw [List.getElem?_eq_getElem (by have := HSD.out; omega)]
          rfl
        have HD := Lib.hid (drop_cons _ _ _ hb)
        have HB := Lib.hid hb
        clear hb
        obtain ⟨wo, rfl⟩ : ∃ wo : World, wo = wr := ⟨_, rfl⟩
        go_wp2_with fail
        go_loopw [7] (fun v wr => ∃ n : Nat, i + n ≤ s.size ∧ v = .int .i64 (n : Int) ∧ wr = wo ∧ ∀ j b, j < n → (s.data.toList.drop i)[j]? = some b → letterB b = true) (fun v _ => s.size - (intOf v).toNat)
        case atStart => exact ⟨0, by omega, rfl, rfl, fun j b h => by omega⟩
        case round =>
          obtain ⟨n, hn, rfl, rfl, hall⟩ := hrel
          have hdl : (s.data.toList.drop i).length = s.size - i := by rw [List.length_drop, HSD.out]
          have HSG : Hid (∀ w, Calls Tryz.prog 39 #[.string (s.extract i s.size)] w fun e w' => e = .returned (.int .i64 (signL (s.data.toList.drop i) : Int)) ∧ Below w.heap.size w w') := Lib.hid (fun w => by
            have h := rsign_any (s.extract i s.size) w
            rw [Lib.extract_to_end] at h
            exact h)
          have HALL := Lib.hid hall
          have hrn : (i + n < s.size → ∃ b, (s.data.toList.drop i)[n]? = some b ∧ letterB b = false) → runL letterB (s.data.toList.drop i) = n := fun h =>
            runL_at letterB _ _ HALL.out (by omega) (by
              rcases Nat.lt_or_ge (i + n) s.size with h2 | h2
              · exact .inr (h h2)
              · exact .inl (by omega))
          have HRN := Lib.hid hrn
          clear hall hrn hdl
          by_cases hgo : i + n < s.size
          · have hgo' : (i : Int) + (n : Int) < (s.size : Int) := by omega
            have hbn : (s.data.toList.drop i)[n]? = some s[i + n] := by
              rw [List.getElem?_drop, List.getElem?_eq_getElem (by have := HSD.out; omega)]
              rfl
            have HBN := Lib.hid hbn
            clear hbn
            go_wp2_with fail
            refine (rletter_any _ _).mono ?_
            rintro e w' ⟨rfl, rfl⟩
            cases hlet : letterB s[i + n] with
            | true =>
              have HLET := Lib.hid hlet
              clear hlet
              go_wp2_with fail
              go_roundw
              case rel =>
                refine ⟨n + 1, by omega, by go_num, (by first | rfl | trivial), fun j b hj hb => ?_⟩
                by_cases e : j = n
                · subst e
                  have := HBN.out
                  rw [this] at hb
                  cases hb
                  exact HLET.out
                · exact HALL.out j b (by omega) hb
              case measure => simp [intOf]; omega
            | false =>
              have HN := Lib.hid (HRN.out (fun _ => ⟨_, HBN.out, hlet⟩))
              clear hlet
              go_wp2_with fail
              refine (HSG.out _).mono ?_
              rintro e w1 ⟨rfl, hb1⟩
              have HOX := Lib.hid (own_below HO.out hb1)
              have HLX := Lib.hid (below2 HLOW.out hsz0 hb1)
              have hw1 := hb1.size
              clear hb1
              generalize hK : signL (s.data.toList.drop i) = k
              have HK := Lib.hid hK
              clear hK
              cases hbk : blankB s[i] with
              | true =>
                have HE : Hid (items (s.data.toList.drop i) i = items (s.data.toList.drop (i + 1)) (i + 1)) := Lib.hid (by rw [HD.out]; exact items_blank _ _ _ hbk)
                have hb3 : s[i].toNat = 32 ∨ s[i].toNat = 9 ∨ s[i].toNat = 10 := by
                  unfold blankB at hbk
                  simp only [Bool.or_eq_true, decide_eq_true_eq] at hbk
                  omega
                clear hbk
                rcases hb3 with h | h | h
                · have q32 : ((s[i].toNat : Int) == 32) = true := by rw [h]; rfl
                  have q9 : ((s[i].toNat : Int) == 9) = false := by rw [h]; rfl
                  have q10 : ((s[i].toNat : Int) == 10) = false := by rw [h]; rfl
                  clear h
                  go_wp2_with fail
                  go_roundw
                  case rel => exact ⟨i + 1, pre, by omega, by go_num, by rw [HIT.out, HE.out], HOK.out, HOX.out, HLX.out⟩
                  case measure => simp [intOf]; omega
                · have q32 : ((s[i].toNat : Int) == 32) = false := by rw [h]; rfl
                  have q9 : ((s[i].toNat : Int) == 9) = true := by rw [h]; rfl
                  have q10 : ((s[i].toNat : Int) == 10) = false := by rw [h]; rfl
                  clear h
                  go_wp2_with fail
                  go_roundw
                  case rel => exact ⟨i + 1, pre, by omega, by go_num, by rw [HIT.out, HE.out], HOK.out, HOX.out, HLX.out⟩
                  case measure => simp [intOf]; omega
                · have q32 : ((s[i].toNat : Int) == 32) = false := by rw [h]; rfl
                  have q9 : ((s[i].toNat : Int) == 9) = false := by rw [h]; rfl
                  have q10 : ((s[i].toNat : Int) == 10) = true := by rw [h]; rfl
                  clear h
                  go_wp2_with fail
                  go_roundw
                  case rel => exact ⟨i + 1, pre, by omega, by go_num, by rw [HIT.out, HE.out], HOK.out, HOX.out, HLX.out⟩
                  case measure => simp [intOf]; omega
              | false =>
                have hb3 : s[i].toNat ≠ 32 ∧ s[i].toNat ≠ 9 ∧ s[i].toNat ≠ 10 := by
                  unfold blankB at hbk
                  simp only [Bool.or_eq_false_iff, decide_eq_false_iff_not] at hbk
                  omega
                have q32 : ((s[i].toNat : Int) == 32) = false := by (first | (rw [h]; rfl) | (simp; omega))
                have q9 : ((s[i].toNat : Int) == 9) = false := by (first | (rw [h]; rfl) | (simp; omega))
                have q10 : ((s[i].toNat : Int) == 10) = false := by (first | (rw [h]; rfl) | (simp; omega))
                have hD0 : (s.data.toList.drop i)[0]? = some s[i] := by rw [HD.out]; rfl
                have HD0 := Lib.hid hD0
                have HBK := Lib.hid hbk
                clear hb3 hD0
                by_cases hn0 : 0 < n
                · have hn0' : 0 < (n : Int) := by omega
                  have HNL : Hid (nameL (s.data.toList.drop i) = n) := Lib.hid (by
                    have hnq : s[i].toNat ≠ 34 := fun h => by
                      have := HALL.out 0 _ hn0 HD0.out
                      rw [letter_quote _ h] at this
                      cases this
                    rw [nameL_r _ (by rw [HD0.out]; simpa using hnq), HN.out])
                  have HIE : Hid (items (s.data.toList.drop i) i = (⟨1, (s.data.toList.drop i).take n, i⟩, true) :: items ((s.data.toList.drop i).drop n) (i + n)) := Lib.hid (by
                    have h := tk_name (c := s[i]) (d := s.data.toList.drop (i + 1)) i hbk (by rw [← HD.out, HNL.out]; exact hn0)
                    rw [← HD.out, HNL.out] at h
                    exact h)
                  clear hbk
                  have HNEW := Lib.hid (cells_new w1 [.int .i64 1, .string (s.extract i (i + n)), .int .i64 (i : Int)] 53)
                  have HOW := Lib.hid (own_below HOX.out (stepA w1 (.cells #[.int .i64 1, .string (s.extract i (i + n)), .int .i64 (i : Int)] 53)))
                  have HONE : Hid (∀ u ∈ ([.int .i64 1, .string (s.extract i (i + n)), .int .i64 (i : Int)] : List Value), u.oneCell' = true) := Lib.hid (by intro u hu; simp at hu; rcases hu with rfl | rfl | rfl <;> rfl)
                  go_wp2_with ((at_builtin; go_loud (refine wpList_append_own _ (o := ⟨some 69, _, _, _, _, _⟩) rfl (.tmp 59) (.tmp 68) _ rfl w.heap.size 53 i0 _ 3 32 Tryz.underlying43 hi0 hz0 hz1 hz2 rfl (by omega) (.slice A pre.length c) pre.length (flatTk (pre.map Prod.fst)) rfl HOW.out _ 1 1 [.int .i64 1, .string (s.extract i (i + n)), .int .i64 (i : Int)] rfl rfl HNEW.out HONE.out (by unfold maxLen; omega) (by omega) (by simp; omega) ?_); intro v6 w6 hown6 hg6 _; go_loud (obtain ⟨A6, k6, hv6, hkc6⟩ := own_form hown6); go_loud (rw [hv6] at hown6 ⊢); clear hv6; have HG6 := Lib.hid hg6; have HO6 := Lib.hid hown6; clear hg6 hown6))
                  go_roundw
                  case rel =>
                    refine ⟨i + n, pre ++ [(⟨1, (s.data.toList.drop i).take n, i⟩, true)], by omega, by go_num, ?_, ?_, ?_, ?_⟩
                    · rw [HIT.out, HIE.out, List.drop_drop, List.append_assoc]
                      rfl
                    · intro x hx
                      rcases List.mem_append.1 hx with hx | hx
                      · exact HOK.out x hx
                      · rw [List.mem_singleton.1 hx]
                    · have h6 := HO6.out
                      rw [extract_tk] at h6
                      rw [List.map_append, flatTk_append, List.length_append]
                      exact h6
                    · exact (HLX.out.trans ((stepA w1 _).mono (by have := HLX.out.size; omega))).grown HG6.out (by have := HLX.out.size; simp; omega) (own_block HOX.out)
                  case measure => simp [intOf]; omega
                · obtain rfl : n = 0 := by omega
                  by_cases hq : s[i].toNat = 34
                  · have q34 : ((s[i].toNat : Int) == 34) = true := by (first | (rw [h]; rfl) | (simp; omega))
                    have HQC : Hid (∀ w, Calls Tryz.prog 40 #[.string (s.extract i s.size)] w fun e w' => e = .returned (.int .i64 (quotL (s.data.toList.drop i) : Int)) ∧ w' = w) := Lib.hid (fun w => by
                      have h := quoted_any (s.extract i s.size) (by rw [ByteArray.size_extract]; omega) w
                      rw [Lib.extract_to_end] at h
                      exact h)
                    have hnq : nameL (s.data.toList.drop i) = quotL (s.data.toList.drop i) := nameL_q _ (by rw [HD0.out]; simpa using hq)
                    have hql : i + quotL (s.data.toList.drop i) ≤ s.size := by
                      have := quotL_le' (s.data.toList.drop i)
                      rw [List.length_drop, HSD.out] at this
                      omega
                    generalize quotL (s.data.toList.drop i) = q at HQC hnq hql
                    have HNL := Lib.hid hnq
                    clear hnq hq
                    by_cases hq0 : 0 < q
                    · have hq0' : 0 < (q : Int) := by omega
                      have HIE : Hid (items (s.data.toList.drop i) i = (⟨1, (s.data.toList.drop i).take q, i⟩, true) :: items ((s.data.toList.drop i).drop q) (i + q)) := Lib.hid (by
                        have h := tk_name (c := s[i]) (d := s.data.toList.drop (i + 1)) i hbk (by rw [← HD.out, HNL.out]; exact hq0)
                        rw [← HD.out, HNL.out] at h
                        exact h)
                      clear hbk
                      go_wp2_with fail
                      refine (HQC.out _).mono ?_
                      rintro e w2 ⟨rfl, hw2⟩
                      have hw2' := hw2.symm; subst hw2'
                      go_wp2_with fail
                      refine (HQC.out _).mono ?_
                      rintro e w3 ⟨rfl, hw3⟩
                      have hw3' := hw3.symm; subst hw3'
                      have HNEW := Lib.hid (cells_new w1 [.int .i64 1, .string (s.extract i (i + q)), .int .i64 (i : Int)] 53)
                      have HOW := Lib.hid (own_below HOX.out (stepA w1 (.cells #[.int .i64 1, .string (s.extract i (i + q)), .int .i64 (i : Int)] 53)))
                      have HONE : Hid (∀ u ∈ ([.int .i64 1, .string (s.extract i (i + q)), .int .i64 (i : Int)] : List Value), u.oneCell' = true) := Lib.hid (by intro u hu; simp at hu; rcases hu with rfl | rfl | rfl <;> rfl)
                      go_wp2_with ((at_builtin; go_loud (refine wpList_append_own _ (o := ⟨some 96, _, _, _, _, _⟩) rfl (.tmp 86) (.tmp 95) _ rfl w.heap.size 53 i0 _ 3 32 Tryz.underlying43 hi0 hz0 hz1 hz2 rfl (by omega) (.slice A pre.length c) pre.length (flatTk (pre.map Prod.fst)) rfl HOW.out _ 1 1 [.int .i64 1, .string (s.extract i (i + q)), .int .i64 (i : Int)] rfl rfl HNEW.out HONE.out (by unfold maxLen; omega) (by omega) (by simp; omega) ?_); intro v6 w6 hown6 hg6 _; go_loud (obtain ⟨A6, k6, hv6, hkc6⟩ := own_form hown6); go_loud (rw [hv6] at hown6 ⊢); clear hv6; have HG6 := Lib.hid hg6; have HO6 := Lib.hid hown6; clear hg6 hown6))
                      go_roundw
                      case rel =>
                        refine ⟨i + q, pre ++ [(⟨1, (s.data.toList.drop i).take q, i⟩, true)], by omega, by go_num, ?_, ?_, ?_, ?_⟩
                        · rw [HIT.out, HIE.out, List.drop_drop, List.append_assoc]
                          rfl
                        · intro x hx
                          rcases List.mem_append.1 hx with hx | hx
                          · exact HOK.out x hx
                          · rw [List.mem_singleton.1 hx]
                        · have h6 := HO6.out
                          rw [extract_tk] at h6
                          rw [List.map_append, flatTk_append, List.length_append]
                          exact h6
                        · exact (HLX.out.trans ((stepA w1 _).mono (by have := HLX.out.size; omega))).grown HG6.out (by have := HLX.out.size; simp; omega) (own_block HOX.out)
                      case measure => simp [intOf]; omega
                    · obtain rfl : q = 0 := by omega
                      go_wp2_with fail
                      refine (HQC.out _).mono ?_
                      rintro e w2 ⟨rfl, hw2⟩
                      have hw2' := hw2.symm; subst hw2'
                      by_cases hk0 : 0 < k
                      · have hk0' : 0 < (k : Int) := by omega
                        have HIE : Hid (items (s.data.toList.drop i) i = (⟨2, (s.data.toList.drop i).take k, i⟩, true) :: items ((s.data.toList.drop i).drop k) (i + k)) := Lib.hid (by
                          have h := tk_sign (c := s[i]) (d := s.data.toList.drop (i + 1)) i hbk (by rw [← HD.out]; exact HNL.out) (by rw [← HD.out, HK.out]; exact hk0)
                          rw [← HD.out, HK.out] at h
                          exact h)
                        have hkl : i + k ≤ s.size := by
                          have := signL_le (s.data.toList.drop i)
                          rw [HK.out, List.length_drop, HSD.out] at this
                          omega
                        have HNEW := Lib.hid (cells_new w1 [.int .i64 2, .string (s.extract i (i + k)), .int .i64 (i : Int)] 53)
                        have HOW := Lib.hid (own_below HOX.out (stepA w1 (.cells #[.int .i64 2, .string (s.extract i (i + k)), .int .i64 (i : Int)] 53)))
                        have HONE : Hid (∀ u ∈ ([.int .i64 2, .string (s.extract i (i + k)), .int .i64 (i : Int)] : List Value), u.oneCell' = true) := Lib.hid (by intro u hu; simp at hu; rcases hu with rfl | rfl | rfl <;> rfl)
                        go_wp2_with ((at_builtin; go_loud (refine wpList_append_own _ (o := ⟨some 111, _, _, _, _, _⟩) rfl (.tmp 101) (.tmp 110) _ rfl w.heap.size 53 i0 _ 3 32 Tryz.underlying43 hi0 hz0 hz1 hz2 rfl (by omega) (.slice A pre.length c) pre.length (flatTk (pre.map Prod.fst)) rfl HOW.out _ 1 1 [.int .i64 2, .string (s.extract i (i + k)), .int .i64 (i : Int)] rfl rfl HNEW.out HONE.out (by unfold maxLen; omega) (by omega) (by simp; omega) ?_); intro v6 w6 hown6 hg6 _; go_loud (obtain ⟨A6, k6, hv6, hkc6⟩ := own_form hown6); go_loud (rw [hv6] at hown6 ⊢); clear hv6; have HG6 := Lib.hid hg6; have HO6 := Lib.hid hown6; clear hg6 hown6))
                        go_roundw
                        case rel =>
                          refine ⟨i + k, pre ++ [(⟨2, (s.data.toList.drop i).take k, i⟩, true)], by omega, by go_num, ?_, ?_, ?_, ?_⟩
                          · rw [HIT.out, HIE.out, List.drop_drop, List.append_assoc]
                            rfl
                          · intro x hx
                            rcases List.mem_append.1 hx with hx | hx
                            · exact HOK.out x hx
                            · rw [List.mem_singleton.1 hx]
                          · have h6 := HO6.out
                            rw [extract_tk] at h6
                            rw [List.map_append, flatTk_append, List.length_append]
                            exact h6
                          · exact (HLX.out.trans ((stepA w1 _).mono (by have := HLX.out.size; omega))).grown HG6.out (by have := HLX.out.size; simp; omega) (own_block HOX.out)
                        case measure => simp [intOf]; omega
                      · obtain rfl : k = 0 := by omega
                        have HIE : Hid (items (s.data.toList.drop i) i = [(⟨2, [], i⟩, false)]) := Lib.hid (by
                          have h := tk_none (c := s[i]) (d := s.data.toList.drop (i + 1)) i hbk (by rw [← HD.out]; exact HNL.out) (by rw [← HD.out]; exact HK.out)
                          rw [← HD.out] at h
                          exact h)
                        go_wp2_with fail
                        go_ret3
                        have hx : ((⟨2, [], i⟩, false) : Tk × Bool) ∈ items s.data.toList 0 := by
                          rw [HIT.out, HIE.out]
                          simp
                        rw [lexOf_bad (by have := HSD.out; omega) hx rfl]
                        exact ⟨none, 0, rfl, Nat.le_refl _, Vals.nil, HLX.out, fun b o e => by cases e⟩
                  · have q34 : ((s[i].toNat : Int) == 34) = false := by (first | (rw [h]; rfl) | (simp; omega))
                    have HNL : Hid (nameL (s.data.toList.drop i) = 0) := Lib.hid (by rw [nameL_r _ (by rw [HD0.out]; simpa using hq), HN.out])
                    clear hq
                    by_cases hk0 : 0 < k
                    · have hk0' : 0 < (k : Int) := by omega
                      have HIE : Hid (items (s.data.toList.drop i) i = (⟨2, (s.data.toList.drop i).take k, i⟩, true) :: items ((s.data.toList.drop i).drop k) (i + k)) := Lib.hid (by
                        have h := tk_sign (c := s[i]) (d := s.data.toList.drop (i + 1)) i hbk (by rw [← HD.out]; exact HNL.out) (by rw [← HD.out, HK.out]; exact hk0)
                        rw [← HD.out, HK.out] at h
                        exact h)
                      have hkl : i + k ≤ s.size := by
                        have := signL_le (s.data.toList.drop i)
                        rw [HK.out, List.length_drop, HSD.out] at this
                        omega
                      have HNEW := Lib.hid (cells_new w1 [.int .i64 2, .string (s.extract i (i + k)), .int .i64 (i : Int)] 53)
                      have HOW := Lib.hid (own_below HOX.out (stepA w1 (.cells #[.int .i64 2, .string (s.extract i (i + k)), .int .i64 (i : Int)] 53)))
                      have HONE : Hid (∀ u ∈ ([.int .i64 2, .string (s.extract i (i + k)), .int .i64 (i : Int)] : List Value), u.oneCell' = true) := Lib.hid (by intro u hu; simp at hu; rcases hu with rfl | rfl | rfl <;> rfl)
                      go_wp2_with ((at_builtin; go_loud (refine wpList_append_own _ (o := ⟨some 111, _, _, _, _, _⟩) rfl (.tmp 101) (.tmp 110) _ rfl w.heap.size 53 i0 _ 3 32 Tryz.underlying43 hi0 hz0 hz1 hz2 rfl (by omega) (.slice A pre.length c) pre.length (flatTk (pre.map Prod.fst)) rfl HOW.out _ 1 1 [.int .i64 2, .string (s.extract i (i + k)), .int .i64 (i : Int)] rfl rfl HNEW.out HONE.out (by unfold maxLen; omega) (by omega) (by simp; omega) ?_); intro v6 w6 hown6 hg6 _; go_loud (obtain ⟨A6, k6, hv6, hkc6⟩ := own_form hown6); go_loud (rw [hv6] at hown6 ⊢); clear hv6; have HG6 := Lib.hid hg6; have HO6 := Lib.hid hown6; clear hg6 hown6))
                      go_roundw
                      case rel =>
                        refine ⟨i + k, pre ++ [(⟨2, (s.data.toList.drop i).take k, i⟩, true)], by omega, by go_num, ?_, ?_, ?_, ?_⟩
                        · rw [HIT.out, HIE.out, List.drop_drop, List.append_assoc]
                          rfl
                        · intro x hx
                          rcases List.mem_append.1 hx with hx | hx
                          · exact HOK.out x hx
                          · rw [List.mem_singleton.1 hx]
                        · have h6 := HO6.out
                          rw [extract_tk] at h6
                          rw [List.map_append, flatTk_append, List.length_append]
                          exact h6
                        · exact (HLX.out.trans ((stepA w1 _).mono (by have := HLX.out.size; omega))).grown HG6.out (by have := HLX.out.size; simp; omega) (own_block HOX.out)
                      case measure => simp [intOf]; omega
                    · obtain rfl : k = 0 := by omega
                      have HIE : Hid (items (s.data.toList.drop i) i = [(⟨2, [], i⟩, false)]) := Lib.hid (by
                        have h := tk_none (c := s[i]) (d := s.data.toList.drop (i + 1)) i hbk (by rw [← HD.out]; exact HNL.out) (by rw [← HD.out]; exact HK.out)
                        rw [← HD.out] at h
                        exact h)
                      go_wp2_with fail
                      go_ret3
                      have hx : ((⟨2, [], i⟩, false) : Tk × Bool) ∈ items s.data.toList 0 := by
                        rw [HIT.out, HIE.out]
                        simp
                      rw [lexOf_bad (by have := HSD.out; omega) hx rfl]
                      exact ⟨none, 0, rfl, Nat.le_refl _, Vals.nil, HLX.out, fun b o e => by cases e⟩
          · have HN := Lib.hid (HRN.out (fun h => absurd h hgo))
            go_wp2_with fail
            refine (HSG.out _).mono ?_
            rintro e w1 ⟨rfl, hb1⟩
            have HOX := Lib.hid (own_below HO.out hb1)
            have HLX := Lib.hid (below2 HLOW.out hsz0 hb1)
            have hw1 := hb1.size
            clear hb1
            generalize hK : signL (s.data.toList.drop i) = k
            have HK := Lib.hid hK
            clear hK
            cases hbk : blankB s[i] with
            | true =>
              have HE : Hid (items (s.data.toList.drop i) i = items (s.data.toList.drop (i + 1)) (i + 1)) := Lib.hid (by rw [HD.out]; exact items_blank _ _ _ hbk)
              have hb3 : s[i].toNat = 32 ∨ s[i].toNat = 9 ∨ s[i].toNat = 10 := by
                unfold blankB at hbk
                simp only [Bool.or_eq_true, decide_eq_true_eq] at hbk
                omega
              clear hbk
              rcases hb3 with h | h | h
              · have q32 : ((s[i].toNat : Int) == 32) = true := by rw [h]; rfl
                have q9 : ((s[i].toNat : Int) == 9) = false := by rw [h]; rfl
                have q10 : ((s[i].toNat : Int) == 10) = false := by rw [h]; rfl
                clear h
                go_wp2_with fail
                go_roundw
                case rel => exact ⟨i + 1, pre, by omega, by go_num, by rw [HIT.out, HE.out], HOK.out, HOX.out, HLX.out⟩
                case measure => simp [intOf]; omega
              · have q32 : ((s[i].toNat : Int) == 32) = false := by rw [h]; rfl
                have q9 : ((s[i].toNat : Int) == 9) = true := by rw [h]; rfl
                have q10 : ((s[i].toNat : Int) == 10) = false := by rw [h]; rfl
                clear h
                go_wp2_with fail
                go_roundw
                case rel => exact ⟨i + 1, pre, by omega, by go_num, by rw [HIT.out, HE.out], HOK.out, HOX.out, HLX.out⟩
                case measure => simp [intOf]; omega
              · have q32 : ((s[i].toNat : Int) == 32) = false := by rw [h]; rfl
                have q9 : ((s[i].toNat : Int) == 9) = false := by rw [h]; rfl
                have q10 : ((s[i].toNat : Int) == 10) = true := by rw [h]; rfl
                clear h
                go_wp2_with fail
                go_roundw
                case rel => exact ⟨i + 1, pre, by omega, by go_num, by rw [HIT.out, HE.out], HOK.out, HOX.out, HLX.out⟩
                case measure => simp [intOf]; omega
            | false =>
              have hb3 : s[i].toNat ≠ 32 ∧ s[i].toNat ≠ 9 ∧ s[i].toNat ≠ 10 := by
                unfold blankB at hbk
                simp only [Bool.or_eq_false_iff, decide_eq_false_iff_not] at hbk
                omega
              have q32 : ((s[i].toNat : Int) == 32) = false := by (first | (rw [h]; rfl) | (simp; omega))
              have q9 : ((s[i].toNat : Int) == 9) = false := by (first | (rw [h]; rfl) | (simp; omega))
              have q10 : ((s[i].toNat : Int) == 10) = false := by (first | (rw [h]; rfl) | (simp; omega))
              have hD0 : (s.data.toList.drop i)[0]? = some s[i] := by rw [HD.out]; rfl
              have HD0 := Lib.hid hD0
              have HBK := Lib.hid hbk
              clear hb3 hD0
              by_cases hn0 : 0 < n
              · have hn0' : 0 < (n : Int) := by omega
                have HNL : Hid (nameL (s.data.toList.drop i) = n) := Lib.hid (by
                  have hnq : s[i].toNat ≠ 34 := fun h => by
                    have := HALL.out 0 _ hn0 HD0.out
                    rw [letter_quote _ h] at this
                    cases this
                  rw [nameL_r _ (by rw [HD0.out]; simpa using hnq), HN.out])
                have HIE : Hid (items (s.data.toList.drop i) i = (⟨1, (s.data.toList.drop i).take n, i⟩, true) :: items ((s.data.toList.drop i).drop n) (i + n)) := Lib.hid (by
                  have h := tk_name (c := s[i]) (d := s.data.toList.drop (i + 1)) i hbk (by rw [← HD.out, HNL.out]; exact hn0)
                  rw [← HD.out, HNL.out] at h
                  exact h)
                clear hbk
                have HNEW := Lib.hid (cells_new w1 [.int .i64 1, .string (s.extract i (i + n)), .int .i64 (i : Int)] 53)
                have HOW := Lib.hid (own_below HOX.out (stepA w1 (.cells #[.int .i64 1, .string (s.extract i (i + n)), .int .i64 (i : Int)] 53)))
                have HONE : Hid (∀ u ∈ ([.int .i64 1, .string (s.extract i (i + n)), .int .i64 (i : Int)] : List Value), u.oneCell' = true) := Lib.hid (by intro u hu; simp at hu; rcases hu with rfl | rfl | rfl <;> rfl)
                go_wp2_with ((at_builtin; go_loud (refine wpList_append_own _ (o := ⟨some 69, _, _, _, _, _⟩) rfl (.tmp 59) (.tmp 68) _ rfl w.heap.size 53 i0 _ 3 32 Tryz.underlying43 hi0 hz0 hz1 hz2 rfl (by omega) (.slice A pre.length c) pre.length (flatTk (pre.map Prod.fst)) rfl HOW.out _ 1 1 [.int .i64 1, .string (s.extract i (i + n)), .int .i64 (i : Int)] rfl rfl HNEW.out HONE.out (by unfold maxLen; omega) (by omega) (by simp; omega) ?_); intro v6 w6 hown6 hg6 _; go_loud (obtain ⟨A6, k6, hv6, hkc6⟩ := own_form hown6); go_loud (rw [hv6] at hown6 ⊢); clear hv6; have HG6 := Lib.hid hg6; have HO6 := Lib.hid hown6; clear hg6 hown6))
                go_roundw
                case rel =>
                  refine ⟨i + n, pre ++ [(⟨1, (s.data.toList.drop i).take n, i⟩, true)], by omega, by go_num, ?_, ?_, ?_, ?_⟩
                  · rw [HIT.out, HIE.out, List.drop_drop, List.append_assoc]
                    rfl
                  · intro x hx
                    rcases List.mem_append.1 hx with hx | hx
                    · exact HOK.out x hx
                    · rw [List.mem_singleton.1 hx]
                  · have h6 := HO6.out
                    rw [extract_tk] at h6
                    rw [List.map_append, flatTk_append, List.length_append]
                    exact h6
                  · exact (HLX.out.trans ((stepA w1 _).mono (by have := HLX.out.size; omega))).grown HG6.out (by have := HLX.out.size; simp; omega) (own_block HOX.out)
                case measure => simp [intOf]; omega
              · omega
      · obtain rfl : i = s.size := by omega
        have HIE : Hid (items (s.data.toList.drop s.size) s.size = [(⟨0, [], s.size⟩, true)]) := Lib.hid (by
          rw [List.drop_of_length_le (by have := HSD.out; omega)]
          exact tk_end _)
        have HOX := HO
        have HNEW := Lib.hid (cells_new wr [.int .i64 0, .string ⟨#[]⟩, .int .i64 (s.size : Int)] 53)
        have HOW := Lib.hid (own_below HOX.out (stepA wr (.cells #[.int .i64 0, .string ⟨#[]⟩, .int .i64 (s.size : Int)] 53)))
        have HONE : Hid (∀ u ∈ ([.int .i64 0, .string ⟨#[]⟩, .int .i64 (s.size : Int)] : List Value), u.oneCell' = true) := Lib.hid (by intro u hu; simp at hu; rcases hu with rfl | rfl | rfl <;> rfl)
        go_wp2_with ((at_builtin; go_loud (refine wpList_append_own _ (o := ⟨some 120, _, _, _, _, _⟩) rfl (.tmp 115) (.tmp 119) _ rfl w.heap.size 53 i0 _ 3 32 Tryz.underlying43 hi0 hz0 hz1 hz2 rfl (by omega) (.slice A pre.length c) pre.length (flatTk (pre.map Prod.fst)) rfl HOW.out _ 1 1 [.int .i64 0, .string ⟨#[]⟩, .int .i64 (s.size : Int)] rfl rfl HNEW.out HONE.out (by unfold maxLen; omega) (by omega) (by simp; omega) ?_); intro v6 w6 hown6 hg6 _; go_loud (obtain ⟨A6, k6, hv6, hkc6⟩ := own_form hown6); go_loud (rw [hv6] at hown6 ⊢); clear hv6; have HG6 := Lib.hid hg6; have HO6 := Lib.hid hown6; have hkc6' := hkc6; clear hg6 hown6 hkc6))
        go_ret3
        have hall : items s.data.toList 0 = pre ++ [(⟨0, [], s.size⟩, true)] := by rw [HIT.out, HIE.out]
        have hgood := lexOf_good (l := s.data.toList) (by have := HSD.out; omega) (by
          rw [hall]
          intro x hx
          rcases List.mem_append.1 hx with hx | hx
          · exact HOK.out x hx
          · rw [List.mem_singleton.1 hx])
        rw [hgood, hall]
        have hlow6 : Below w.heap.size w w6 := (HLOW.out.trans ((stepA wr _).mono (by have := HLOW.out.size; omega))).grown HG6.out (by have := HLOW.out.size; simp; omega) (own_block HOX.out)
        have hv := Vals.of_own HO6.out
        have hl : (List.map Prod.fst (pre ++ [((⟨0, [], s.size⟩, true) : Tk × Bool)])).length = pre.length + 1 := by simp
        refine ⟨A6, k6, ?_, by rw [hl]; exact hkc6', ?_, hlow6, fun b o e => by subst e; have h1 := HO6.out.lt b rfl; omega⟩
        · rw [hl]
          rfl
        · rw [List.map_append, flatTk_append]
          exact hv
theorem rlex_any (s : ByteArray) (hs : s.size ≤ 140737488355328) (w : World) : Calls Tryz.prog 25 #[.string s] w (RetTk w (lexOf s.data.toList)) :=
  (rlex_new s hs w).mono fun e w' ⟨A, c, h1, h2, h3, h4, _⟩ => ⟨A, c, h1, h2, h3, h4⟩
end Go.Proofs.YtijecfmblddanaaGreatDoor
