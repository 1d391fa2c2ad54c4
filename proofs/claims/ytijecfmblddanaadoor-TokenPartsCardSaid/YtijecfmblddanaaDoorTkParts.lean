/- Tokens: TokenParts. -/
import Derived.Test.YtijecfmblddanaaDoorTkPieces
import Derived.Test.YtijecfmblddanaaDoorPTok3
set_option linter.unusedVariables false
set_option linter.unusedSimpArgs false
namespace Go.Proofs.YtijecfmblddanaaDoor
open Go.RowKit Go.Maps

set_option maxRecDepth 100000 in
set_option maxHeartbeats 4000000 in
theorem tokenParts_any (l : List Int) (A0 : Option Addr) (c0 : Nat) (m : List Int) (B0 : Option Addr) (d0 : Nat) (w : World) (hr : ∀ x ∈ l, 0 ≤ x ∧ x ≤ 255) (hc : l.length ≤ c0) (hl : c0 ≤ 140737488355328) (hA : Vals w w.heap.size A0 (l.map (.int .u8 ·)))
    (hr2 : ∀ x ∈ m, 0 ≤ x ∧ x ≤ 255) (hc2 : m.length ≤ d0) (hl2 : d0 ≤ 140737488355328) (hA2 : Vals w w.heap.size B0 (m.map (.int .u8 ·))) :
    Calls Tryd.prog 6 #[.slice A0 l.length c0, .slice B0 m.length d0] w (Ret w (.bool true)) := by
  have hu : (piecesL l).length ≤ 100 := by
    have := piecesTo_len l (min l.length 20)
    unfold piecesL
    omega
  have ht : (piecesL m).length ≤ 100 := by
    have := piecesTo_len m (min m.length 20)
    unfold piecesL
    omega
  have HP1 := Lib.hid (fun w h => pieces_any l A0 c0 w hc hr (by omega) h)
  have HP2 := Lib.hid (fun w h => pieces_any m B0 d0 w hc2 hr2 (by omega) h)
  have HA := Lib.hid hA
  have HA2 := Lib.hid hA2
  clear hA hr hA2 hr2
  generalize piecesL l = u at hu HP1
  generalize piecesL m = t at ht HP2
  have HU := Lib.hid (fun w => lex_any ⟨u.toArray⟩ (by show u.toArray.size ≤ _; rw [List.size_toArray]; omega) w)
  have HT := Lib.hid (fun w => lex_any ⟨t.toArray⟩ (by show t.toArray.size ≤ _; rw [List.size_toArray]; omega) w)
  have eX : (⟨u.toArray⟩ : ByteArray) ++ ⟨#[32]⟩ ++ ⟨t.toArray⟩ = ⟨((u ++ [32]) ++ t).toArray⟩ := by
    rw [show (⟨#[32]⟩ : ByteArray) = ⟨[32].toArray⟩ from rfl, str_app, str_app]
  have HC0 : ∀ w, Calls Tryd.prog 19 #[.string ((⟨u.toArray⟩ : ByteArray) ++ ⟨#[32]⟩ ++ ⟨t.toArray⟩)] w (RetTk w (lexOf (u ++ 32 :: t))) := fun w => by
    have h := lex_any ⟨((u ++ [32]) ++ t).toArray⟩ (by show ((u ++ [32]) ++ t).toArray.size ≤ _; rw [List.size_toArray]; simp; omega) w
    have e : (⟨((u ++ [32]) ++ t).toArray⟩ : ByteArray).data.toList = u ++ 32 :: t := by simp
    rw [e] at h
    rw [eX]
    exact h
  have HC := Lib.hid HC0
  have hlo : ∀ x : List UInt8, x.length ≤ 300 → lexOf x = if lexBad x then ([], 40, (lexPlace x : Int)) else (lexToks x, 0, 0) := fun x hx => by
    unfold lexOf
    rw [if_neg (by omega)]
  have eu := hlo u (by omega)
  have et := hlo t (by omega)
  have ec := hlo (u ++ 32 :: t) (by simp; omega)
  obtain ⟨p1, p2, p3⟩ := parts_law u t
  rw [show (⟨u.toArray⟩ : ByteArray).data.toList = u from rfl] at HU
  rw [show (⟨t.toArray⟩ : ByteArray).data.toList = t from rfl] at HT
  have hus : (⟨u.toArray⟩ : ByteArray).size = u.length := List.size_toArray
  have hts : (⟨t.toArray⟩ : ByteArray).size = t.length := List.size_toArray
  have hz1 : (⟨u.toArray⟩ : ByteArray).size + 1 ≤ 9223372036854775807 := by omega
  have hz2 : (⟨u.toArray⟩ : ByteArray).size + 1 + (⟨t.toArray⟩ : ByteArray).size ≤ 9223372036854775807 := by omega
  clear hlo hus hts eX HC0
  generalize (⟨u.toArray⟩ : ByteArray) = X at HP1 HU HC hz1 hz2
  generalize (⟨t.toArray⟩ : ByteArray) = Y at HP2 HT HC hz2
  have EU := Lib.hid eu
  have ET := Lib.hid et
  have EC := Lib.hid ec
  have HP : Hid ((lexBad u = true → lexBad (u ++ 32 :: t) = true) ∧ (lexBad u = false → lexBad t = true → lexBad (u ++ 32 :: t) = true) ∧ (lexBad u = false → lexBad t = false → lexBad (u ++ 32 :: t) = false ∧ Alike (lexToks (u ++ 32 :: t)) ((lexToks u).dropLast ++ lexToks t) ∧ lexToks u ≠ [])) := Lib.hid ⟨p1, p2, p3⟩
  clear eu et ec p1 p2 p3
  go_enter Tryd.func6, Tryd.ntmps6
  go_wp2_with fail
  refine (awake7_any _).mono ?_
  rintro e w0 ⟨rfl, hb0⟩
  have HB0 := Lib.hid hb0
  clear hb0
  go_wp2_with fail
  refine (HP1.out _ (HA.out.after HB0.out)).mono ?_
  rintro e w1 ⟨rfl, hb1⟩
  have HB1 := Lib.hid (step2 HB0.out hb1)
  clear hb1
  go_wp2_with fail
  refine (HP2.out _ (HA2.out.after HB1.out)).mono ?_
  rintro e w2 ⟨rfl, hb2⟩
  have HB2 := Lib.hid (step2 HB1.out hb2)
  clear hb2 HP1 HP2 HA HA2
  go_wp2_with fail
  cases hbu : lexBad u with
  | true =>
    have q1 := HP.out.1 hbu
    rw [EC.out, q1, if_pos rfl] at HC
    rw [EU.out, hbu, if_pos rfl] at HU
    rw [ET.out] at HT
    cases hbt : lexBad t with
    | true =>
      rw [hbt, if_pos rfl] at HT
      clear hbu hbt q1
      refine (HU.out _).mono ?_
      rintro e w3 ⟨A1, c1, rfl, hc1, hv1, hb3⟩
      have Hhb3 := Lib.hid (step2 HB2.out hb3)
      have Shb3 := Lib.hid hb3
      have Hhv1 := Lib.hid hv1
      have hc1' := hc1
      simp only [] at hc1'
      clear hb3 hv1 hc1
      go_wp2_with fail
      refine (HT.out _).mono ?_
      rintro e w4 ⟨A2, c2, rfl, hc2, hv2, hb4⟩
      have Hhb4 := Lib.hid (step2 Hhb3.out hb4)
      have Shb4 := Lib.hid hb4
      have Hhv2 := Lib.hid hv2
      have hc2' := hc2
      simp only [] at hc2'
      clear hb4 hv2 hc2
      go_wp2_with fail
      refine (HC.out _).mono ?_
      rintro e w5 ⟨A3, c3, rfl, hc3, hv3, hb5⟩
      have Hhb5 := Lib.hid (step2 Hhb4.out hb5)
      have Shb5 := Lib.hid hb5
      have Hhv3 := Lib.hid hv3
      have hc3' := hc3
      simp only [] at hc3'
      clear hb5 hv3 hc3
      go_wp2_with fail
      go_ret
      exact ⟨rfl, Hhb5.out⟩
    | false =>
      rw [hbt, if_neg (by simp)] at HT
      clear hbu hbt q1
      refine (HU.out _).mono ?_
      rintro e w3 ⟨A1, c1, rfl, hc1, hv1, hb3⟩
      have Hhb3 := Lib.hid (step2 HB2.out hb3)
      have Shb3 := Lib.hid hb3
      have Hhv1 := Lib.hid hv1
      have hc1' := hc1
      simp only [] at hc1'
      clear hb3 hv1 hc1
      go_wp2_with fail
      refine (HT.out _).mono ?_
      rintro e w4 ⟨A2, c2, rfl, hc2, hv2, hb4⟩
      have Hhb4 := Lib.hid (step2 Hhb3.out hb4)
      have Shb4 := Lib.hid hb4
      have Hhv2 := Lib.hid hv2
      have hc2' := hc2
      simp only [] at hc2'
      clear hb4 hv2 hc2
      go_wp2_with fail
      refine (HC.out _).mono ?_
      rintro e w5 ⟨A3, c3, rfl, hc3, hv3, hb5⟩
      have Hhb5 := Lib.hid (step2 Hhb4.out hb5)
      have Shb5 := Lib.hid hb5
      have Hhv3 := Lib.hid hv3
      have hc3' := hc3
      simp only [] at hc3'
      clear hb5 hv3 hc3
      go_wp2_with fail
      go_ret
      exact ⟨rfl, Hhb5.out⟩
  | false =>
    rw [EU.out, hbu, if_neg (by simp)] at HU
    cases hbt : lexBad t with
    | true =>
      have q1 := HP.out.2.1 hbu hbt
      rw [EC.out, q1, if_pos rfl] at HC
      rw [ET.out, hbt, if_pos rfl] at HT
      clear hbu hbt q1
      refine (HU.out _).mono ?_
      rintro e w3 ⟨A1, c1, rfl, hc1, hv1, hb3⟩
      have Hhb3 := Lib.hid (step2 HB2.out hb3)
      have Shb3 := Lib.hid hb3
      have Hhv1 := Lib.hid hv1
      have hc1' := hc1
      simp only [] at hc1'
      clear hb3 hv1 hc1
      go_wp2_with fail
      refine (HT.out _).mono ?_
      rintro e w4 ⟨A2, c2, rfl, hc2, hv2, hb4⟩
      have Hhb4 := Lib.hid (step2 Hhb3.out hb4)
      have Shb4 := Lib.hid hb4
      have Hhv2 := Lib.hid hv2
      have hc2' := hc2
      simp only [] at hc2'
      clear hb4 hv2 hc2
      go_wp2_with fail
      refine (HC.out _).mono ?_
      rintro e w5 ⟨A3, c3, rfl, hc3, hv3, hb5⟩
      have Hhb5 := Lib.hid (step2 Hhb4.out hb5)
      have Shb5 := Lib.hid hb5
      have Hhv3 := Lib.hid hv3
      have hc3' := hc3
      simp only [] at hc3'
      clear hb5 hv3 hc3
      go_wp2_with fail
      go_ret
      exact ⟨rfl, Hhb5.out⟩
    | false =>
      obtain ⟨q1, q2, q3⟩ := HP.out.2.2 hbu hbt
      rw [EC.out, q1, if_neg (by simp)] at HC
      rw [ET.out, hbt, if_neg (by simp)] at HT
      have hlu : (lexToks u).length ≤ 301 := by
        have := items_len _ u 0 (Nat.lt_succ_self _)
        simp only [lexToks, List.length_map]
        omega
      have hltt : (lexToks t).length ≤ 301 := by
        have := items_len _ t 0 (Nat.lt_succ_self _)
        simp only [lexToks, List.length_map]
        omega
      have hlc : (lexToks (u ++ 32 :: t)).length + 1 = (lexToks u).length + (lexToks t).length := by
        have h1 := q2.1
        have h2 : 0 < (lexToks u).length := List.length_pos_iff.2 q3
        rw [List.length_append, List.length_dropLast] at h1
        omega
      have hlp : 0 < (lexToks u).length := List.length_pos_iff.2 q3
      have HAL := Lib.hid q2
      clear hbu hbt q1 q2 q3 HP EU ET EC
      generalize lexToks u = LU at HU HAL hlu hlc hlp
      generalize lexToks t = LT at HT HAL hltt hlc
      generalize lexToks (u ++ 32 :: t) = LC at HC HAL hlc
      have hcc : (LC.length : Int) = (LU.length : Int) + (LT.length : Int) - 1 := by omega
      have HCC := Lib.hid hcc
      have HLC := Lib.hid hlc
      clear hcc hlc
      refine (HU.out _).mono ?_
      rintro e w3 ⟨A1, c1, rfl, hc1, hv1, hb3⟩
      have Hhb3 := Lib.hid (step2 HB2.out hb3)
      have Shb3 := Lib.hid hb3
      have Hhv1 := Lib.hid hv1
      have hc1' := hc1
      simp only [] at hc1'
      clear hb3 hv1 hc1
      go_wp2_with fail
      refine (HT.out _).mono ?_
      rintro e w4 ⟨A2, c2, rfl, hc2, hv2, hb4⟩
      have Hhb4 := Lib.hid (step2 Hhb3.out hb4)
      have Shb4 := Lib.hid hb4
      have Hhv2 := Lib.hid hv2
      have hc2' := hc2
      simp only [] at hc2'
      clear hb4 hv2 hc2
      go_wp2_with fail
      refine (HC.out _).mono ?_
      rintro e w5 ⟨A3, c3, rfl, hc3, hv3, hb5⟩
      have Hhb5 := Lib.hid (step2 Hhb4.out hb5)
      have Shb5 := Lib.hid hb5
      have Hhv3 := Lib.hid hv3
      have hc3' := hc3
      simp only [] at hc3'
      clear hb5 hv3 hc3
      have hne : ((LC.length : Int) != (LU.length : Int) + (LT.length : Int) - 1) = false := by rw [HCC.out]; simp
      go_wp2_with fail
      have VU5 := Lib.hid ((Hhv1.out.after Shb4.out).after Shb5.out)
      have VT5 := Lib.hid (Hhv2.out.after Shb5.out)
      have VC5 := Hhv3
      clear hne
      go_loopw [17] (fun iv wr => ∃ k : Nat, k ≤ LC.length ∧ iv = .int .i64 (k : Int) ∧ Below w5.heap.size w5 wr) (fun iv _ => LC.length - (intOf iv).toNat)
      case atStart => exact ⟨0, Nat.zero_le _, rfl, Below.refl _ _⟩
      case round =>
        obtain ⟨k, hk, rfl, hlow⟩ := hrel
        by_cases hlt : k < LC.length
        · skip
          have HB := Lib.hid (below2 Hhb5.out Hhb5.out.size hlow)
          obtain ⟨y, hy⟩ : ∃ y, (LU.dropLast ++ LT)[k]? = some y := ⟨_, List.getElem?_eq_getElem (by rw [← HAL.out.1]; exact hlt)⟩
          obtain ⟨x, hx⟩ : ∃ x, LC[k]? = some x := ⟨_, List.getElem?_eq_getElem hlt⟩
          obtain ⟨hkk, htt⟩ := HAL.out.2 k x y hx hy
          have hst := stepA wr (.cells #[.int .i64 y.kind, .string ⟨y.text.toArray⟩, .int .i64 (y.place : Int)] 32)
          obtain ⟨b, o, rfl, hb, e0, e1, _⟩ := tk_cells ((VC5.out.below hlow).below (hst.mono hlow.size)) hx
          rw [hkk] at e0
          rw [htt] at e1
          have E0 := Lib.hid e0
          have E1 := Lib.hid e1
          have hlt' : (k : Int) < (LC.length : Int) := by omega
          have HBY := Lib.hid (Blk.new wr 32 #[.int .i64 y.kind, .string ⟨y.text.toArray⟩, .int .i64 (y.place : Int)])
          have HLW := Lib.hid (hlow.trans (hst.mono hlow.size))
          have hCC := HCC.out
          by_cases hka : k + 1 < LU.length
          · have hka' : (k : Int) < (LU.length : Int) - 1 := by omega
            have hy1 : LU[k]? = some y := by
              rw [List.getElem?_append_left (by rw [List.length_dropLast]; omega), List.getElem?_dropLast, if_pos (by omega)] at hy
              exact hy
            obtain ⟨b2, o2, rfl, hb2', f0, f1, f2⟩ := tk_cells (((VU5.out.below hlow).more hlow.size).alloc (Nat.le_refl _) (.cells #[.int .i64 0, .string ⟨#[]⟩, .int .i64 0] 32)) hy1
            have hka3 : k < LU.length := by omega
            clear hx hy hkk htt hst e0 e1 hlow hy1 hCC
            go_wp2_with fail
            have cy0 : (wr.alloc (.cells #[.int .i64 y.kind, .string ⟨y.text.toArray⟩, .int .i64 (y.place : Int)] 32)).cell? ⟨wr.heap.size, 0, none⟩ = some (.int .i64 y.kind) := HBY.out.cell 0
            have cy1 : (wr.alloc (.cells #[.int .i64 y.kind, .string ⟨y.text.toArray⟩, .int .i64 (y.place : Int)] 32)).cell? ⟨wr.heap.size, 1, none⟩ = some (.string ⟨y.text.toArray⟩) := HBY.out.cell 1
            refine wp_region_noPanic ?_
            refine wp_region_seq (fun W => (W.cell? ⟨b, o + k * 3, none⟩ = some (.int .i64 y.kind) ∧ W.cell? ⟨b, o + k * 3 + 1, none⟩ = some (.string ⟨y.text.toArray⟩)) ∧ (W.cell? ⟨wr.heap.size, 0, none⟩ = some (.int .i64 y.kind) ∧ W.cell? ⟨wr.heap.size, 1, none⟩ = some (.string ⟨y.text.toArray⟩))) [0, 1, 2, 3, 4, 5, 6, 7, 8, 9, 10, 11, 12, 13, 14, 15, 16, 17] [0, 1, 2, 3, 4, 5, 6, 7, 8, 9, 10, 11, 12, 13, 14, 15, 16, 17] [] (by kernel_rfl) (by kernel_rfl) rfl (by kernel_rfl) (by kernel_rfl) (fun _ _ _ _ _ h => h) ?_ (fun hSS => ?_)
            · exact ⟨⟨E0.out, E1.out⟩, ⟨cy0, cy1⟩⟩
            (refine wpSeq_mov rfl rfl ?_; intro o ho; simp only [List.getElem?_toArray, List.getElem?_cons_zero, List.getElem?_cons_succ, Option.some.injEq] at ho; subst ho; refine ⟨?_, Or.inl ⟨by rfl, fun W hSW => ?_⟩, ?_⟩; rotate_left; (focus (go_simp; first | done | with_reducible rfl)); try simp only [Act.put, List.setIfInBounds_toArray, List.set_cons_zero, List.set_cons_succ])
            (refine wpSeq_mov rfl rfl ?_; intro o ho; simp only [List.getElem?_toArray, List.getElem?_cons_zero, List.getElem?_cons_succ, Option.some.injEq] at ho; subst ho; refine ⟨?_, Or.inl ⟨by rfl, fun W hSW => ?_⟩, ?_⟩; rotate_left; (focus (go_simp; first | done | with_reducible rfl)); try simp only [Act.put, List.setIfInBounds_toArray, List.set_cons_zero, List.set_cons_succ])
            (refine wpSeq_mov rfl rfl ?_; intro o ho; simp only [List.getElem?_toArray, List.getElem?_cons_zero, List.getElem?_cons_succ, Option.some.injEq] at ho; subst ho; refine ⟨?_, Or.inl ⟨by rfl, fun W hSW => ?_⟩, ?_⟩; rotate_left; (focus (go_simp; first | done | with_reducible rfl)); try simp only [Act.put, List.setIfInBounds_toArray, List.set_cons_zero, List.set_cons_succ])
            (refine wpSeq_mov rfl rfl ?_; intro o ho; simp only [List.getElem?_toArray, List.getElem?_cons_zero, List.getElem?_cons_succ, Option.some.injEq] at ho; subst ho; refine ⟨?_, Or.inl ⟨by rfl, fun W hSW => ?_⟩, ?_⟩; rotate_left; (focus (go_simp; first | done | with_reducible rfl)); try simp only [Act.put, List.setIfInBounds_toArray, List.set_cons_zero, List.set_cons_succ])
            (refine wpSeq_mov rfl rfl ?_; intro o ho; simp only [List.getElem?_toArray, List.getElem?_cons_zero, List.getElem?_cons_succ, Option.some.injEq] at ho; subst ho; refine ⟨?_, Or.inl ⟨by rfl, fun W hSW => ?_⟩, ?_⟩; rotate_left; (focus (go_simp; first | done | with_reducible rfl)); try simp only [Act.put, List.setIfInBounds_toArray, List.set_cons_zero, List.set_cons_succ])
            (refine wpSeq_mov rfl rfl ?_; intro o ho; simp only [List.getElem?_toArray, List.getElem?_cons_zero, List.getElem?_cons_succ, Option.some.injEq] at ho; subst ho; refine ⟨?_, Or.inl ⟨by rfl, fun W hSW => ?_⟩, ?_⟩; rotate_left; (focus (go_simp; first | done | with_reducible rfl)); try simp only [Act.put, List.setIfInBounds_toArray, List.set_cons_zero, List.set_cons_succ])
            (refine wpSeq_mov rfl rfl ?_; intro o ho; simp only [List.getElem?_toArray, List.getElem?_cons_zero, List.getElem?_cons_succ, Option.some.injEq] at ho; subst ho; refine ⟨?_, Or.inl ⟨by rfl, fun W hSW => ?_⟩, ?_⟩; rotate_left; (focus (go_simp; first | done | with_reducible rfl)); try simp only [Act.put, List.setIfInBounds_toArray, List.set_cons_zero, List.set_cons_succ])
            (refine wpSeq_mov rfl rfl ?_; intro o ho; simp only [List.getElem?_toArray, List.getElem?_cons_zero, List.getElem?_cons_succ, Option.some.injEq] at ho; subst ho; refine ⟨?_, Or.inl ⟨by rfl, fun W hSW => ?_⟩, ?_⟩; rotate_left; (focus (go_simp; first | done | with_reducible rfl)); try simp only [Act.put, List.setIfInBounds_toArray, List.set_cons_zero, List.set_cons_succ])
            (refine wpSeq_mov rfl rfl ?_; intro o ho; simp only [List.getElem?_toArray, List.getElem?_cons_zero, List.getElem?_cons_succ, Option.some.injEq] at ho; subst ho; refine ⟨?_, Or.inl ⟨by rfl, fun W hSW => ?_⟩, ?_⟩; rotate_left; (focus (go_simp; first | done | with_reducible rfl)); try simp only [Act.put, List.setIfInBounds_toArray, List.set_cons_zero, List.set_cons_succ])
            (refine wpSeq_mov rfl rfl ?_; intro o ho; simp only [List.getElem?_toArray, List.getElem?_cons_zero, List.getElem?_cons_succ, Option.some.injEq] at ho; subst ho; refine ⟨?_, Or.inl ⟨by rfl, fun W hSW => ?_⟩, ?_⟩; rotate_left; (focus (go_simp; first | done | with_reducible rfl)); try simp only [Act.put, List.setIfInBounds_toArray, List.set_cons_zero, List.set_cons_succ])
            (refine wpSeq_mov rfl rfl ?_; intro o ho; simp only [List.getElem?_toArray, List.getElem?_cons_zero, List.getElem?_cons_succ, Option.some.injEq] at ho; subst ho; refine ⟨?_, Or.inl ⟨by rfl, fun W hSW => ?_⟩, ?_⟩; rotate_left; (focus (go_simp; first | done | with_reducible rfl)); try simp only [Act.put, List.setIfInBounds_toArray, List.set_cons_zero, List.set_cons_succ])
            (refine wpSeq_mov rfl rfl ?_; intro o ho; simp only [List.getElem?_toArray, List.getElem?_cons_zero, List.getElem?_cons_succ, Option.some.injEq] at ho; subst ho; refine ⟨?_, Or.inl ⟨by rfl, fun W hSW => ?_⟩, ?_⟩; rotate_left; (focus (go_simp; first | done | with_reducible rfl)); try simp only [Act.put, List.setIfInBounds_toArray, List.set_cons_zero, List.set_cons_succ])
            (refine wpSeq_mov rfl rfl ?_; intro o ho; simp only [List.getElem?_toArray, List.getElem?_cons_zero, List.getElem?_cons_succ, Option.some.injEq] at ho; subst ho; refine ⟨?_, Or.inl ⟨by rfl, fun W hSW => ?_⟩, ?_⟩; rotate_left; (focus (go_simp; first | done | with_reducible rfl)); try simp only [Act.put, List.setIfInBounds_toArray, List.set_cons_zero, List.set_cons_succ])
            (refine wpSeq_mov rfl rfl ?_; intro o ho; simp only [List.getElem?_toArray, List.getElem?_cons_zero, List.getElem?_cons_succ, Option.some.injEq] at ho; subst ho; refine ⟨?_, Or.inl ⟨by rfl, fun W hSW => ?_⟩, ?_⟩; rotate_left; (focus (go_simp; first | done | with_reducible rfl)); try simp only [Act.put, List.setIfInBounds_toArray, List.set_cons_zero, List.set_cons_succ])
            (refine wpSeq_mov rfl rfl ?_; intro o ho; simp only [List.getElem?_toArray, List.getElem?_cons_zero, List.getElem?_cons_succ, Option.some.injEq] at ho; subst ho; refine ⟨?_, Or.inl ⟨by rfl, fun W hSW => ?_⟩, ?_⟩; rotate_left; (focus (go_simp; first | done | with_reducible rfl)); try simp only [Act.put, List.setIfInBounds_toArray, List.set_cons_zero, List.set_cons_succ])
            (refine wpSeq_mov rfl rfl ?_; intro o ho; simp only [List.getElem?_toArray, List.getElem?_cons_zero, List.getElem?_cons_succ, Option.some.injEq] at ho; subst ho; refine ⟨?_, Or.inl ⟨by rfl, fun W hSW => ?_⟩, ?_⟩; rotate_left; (focus (go_simp; first | done | with_reducible rfl)); try simp only [Act.put, List.setIfInBounds_toArray, List.set_cons_zero, List.set_cons_succ])
            (refine wpSeq_mov rfl rfl ?_; intro o ho; simp only [List.getElem?_toArray, List.getElem?_cons_zero, List.getElem?_cons_succ, Option.some.injEq] at ho; subst ho; refine ⟨?_, Or.inl ⟨by rfl, fun W hSW => ?_⟩, ?_⟩; rotate_left; (focus (go_simp; first | done | with_reducible rfl)); try simp only [Act.put, List.setIfInBounds_toArray, List.set_cons_zero, List.set_cons_succ])
            (refine wpSeq_mov rfl rfl ?_; intro o ho; simp only [List.getElem?_toArray, List.getElem?_cons_zero, List.getElem?_cons_succ, Option.some.injEq] at ho; subst ho; refine ⟨?_, Or.inl ⟨by rfl, fun W hSW => ?_⟩, ?_⟩; rotate_left; (focus (go_simp; first | done | with_reducible rfl)); try simp only [Act.put, List.setIfInBounds_toArray, List.set_cons_zero, List.set_cons_succ])
            refine wpSeq_done ?_
            go_wp2_with fail
            go_roundw
            case rel => exact ⟨k + 1, by omega, by go_num, HLW.out.drew⟩
            case measure => simp [intOf]; omega
          · have hka' : ¬ ((k : Int) < (LU.length : Int) - 1) := by omega
            obtain ⟨j, hj⟩ : ∃ j : Nat, k = LU.length - 1 + j := ⟨k - (LU.length - 1), by omega⟩
            have hy1 : LT[j]? = some y := by
              rw [List.getElem?_append_right (by rw [List.length_dropLast]; omega), List.length_dropLast, show k - (LU.length - 1) = j by omega] at hy
              exact hy
            have hjl : j < LT.length := (List.getElem?_eq_some_iff.1 hy1).1
            have hjl' : (j : Int) < (LT.length : Int) := by omega
            have hjj : (k : Int) - (LU.length : Int) + 1 = (j : Int) := by omega
            obtain ⟨b2, o2, rfl, hb2', f0, f1, f2⟩ := tk_cells (((VT5.out.below hlow).more hlow.size).alloc (Nat.le_refl _) (.cells #[.int .i64 0, .string ⟨#[]⟩, .int .i64 0] 32)) hy1
            clear hx hy hkk htt hst e0 e1 hlow hy1 hCC hj
            go_wp2_with fail
            have cy0 : (wr.alloc (.cells #[.int .i64 y.kind, .string ⟨y.text.toArray⟩, .int .i64 (y.place : Int)] 32)).cell? ⟨wr.heap.size, 0, none⟩ = some (.int .i64 y.kind) := HBY.out.cell 0
            have cy1 : (wr.alloc (.cells #[.int .i64 y.kind, .string ⟨y.text.toArray⟩, .int .i64 (y.place : Int)] 32)).cell? ⟨wr.heap.size, 1, none⟩ = some (.string ⟨y.text.toArray⟩) := HBY.out.cell 1
            refine wp_region_noPanic ?_
            refine wp_region_seq (fun W => (W.cell? ⟨b, o + k * 3, none⟩ = some (.int .i64 y.kind) ∧ W.cell? ⟨b, o + k * 3 + 1, none⟩ = some (.string ⟨y.text.toArray⟩)) ∧ (W.cell? ⟨wr.heap.size, 0, none⟩ = some (.int .i64 y.kind) ∧ W.cell? ⟨wr.heap.size, 1, none⟩ = some (.string ⟨y.text.toArray⟩))) [0, 1, 2, 3, 4, 5, 6, 7, 8, 9, 10, 11, 12, 13, 14, 15, 16, 17] [0, 1, 2, 3, 4, 5, 6, 7, 8, 9, 10, 11, 12, 13, 14, 15, 16, 17] [] (by kernel_rfl) (by kernel_rfl) rfl (by kernel_rfl) (by kernel_rfl) (fun _ _ _ _ _ h => h) ?_ (fun hSS => ?_)
            · exact ⟨⟨E0.out, E1.out⟩, ⟨cy0, cy1⟩⟩
            (refine wpSeq_mov rfl rfl ?_; intro o ho; simp only [List.getElem?_toArray, List.getElem?_cons_zero, List.getElem?_cons_succ, Option.some.injEq] at ho; subst ho; refine ⟨?_, Or.inl ⟨by rfl, fun W hSW => ?_⟩, ?_⟩; rotate_left; (focus (go_simp; first | done | with_reducible rfl)); try simp only [Act.put, List.setIfInBounds_toArray, List.set_cons_zero, List.set_cons_succ])
            (refine wpSeq_mov rfl rfl ?_; intro o ho; simp only [List.getElem?_toArray, List.getElem?_cons_zero, List.getElem?_cons_succ, Option.some.injEq] at ho; subst ho; refine ⟨?_, Or.inl ⟨by rfl, fun W hSW => ?_⟩, ?_⟩; rotate_left; (focus (go_simp; first | done | with_reducible rfl)); try simp only [Act.put, List.setIfInBounds_toArray, List.set_cons_zero, List.set_cons_succ])
            (refine wpSeq_mov rfl rfl ?_; intro o ho; simp only [List.getElem?_toArray, List.getElem?_cons_zero, List.getElem?_cons_succ, Option.some.injEq] at ho; subst ho; refine ⟨?_, Or.inl ⟨by rfl, fun W hSW => ?_⟩, ?_⟩; rotate_left; (focus (go_simp; first | done | with_reducible rfl)); try simp only [Act.put, List.setIfInBounds_toArray, List.set_cons_zero, List.set_cons_succ])
            (refine wpSeq_mov rfl rfl ?_; intro o ho; simp only [List.getElem?_toArray, List.getElem?_cons_zero, List.getElem?_cons_succ, Option.some.injEq] at ho; subst ho; refine ⟨?_, Or.inl ⟨by rfl, fun W hSW => ?_⟩, ?_⟩; rotate_left; (focus (go_simp; first | done | with_reducible rfl)); try simp only [Act.put, List.setIfInBounds_toArray, List.set_cons_zero, List.set_cons_succ])
            (refine wpSeq_mov rfl rfl ?_; intro o ho; simp only [List.getElem?_toArray, List.getElem?_cons_zero, List.getElem?_cons_succ, Option.some.injEq] at ho; subst ho; refine ⟨?_, Or.inl ⟨by rfl, fun W hSW => ?_⟩, ?_⟩; rotate_left; (focus (go_simp; first | done | with_reducible rfl)); try simp only [Act.put, List.setIfInBounds_toArray, List.set_cons_zero, List.set_cons_succ])
            (refine wpSeq_mov rfl rfl ?_; intro o ho; simp only [List.getElem?_toArray, List.getElem?_cons_zero, List.getElem?_cons_succ, Option.some.injEq] at ho; subst ho; refine ⟨?_, Or.inl ⟨by rfl, fun W hSW => ?_⟩, ?_⟩; rotate_left; (focus (go_simp; first | done | with_reducible rfl)); try simp only [Act.put, List.setIfInBounds_toArray, List.set_cons_zero, List.set_cons_succ])
            (refine wpSeq_mov rfl rfl ?_; intro o ho; simp only [List.getElem?_toArray, List.getElem?_cons_zero, List.getElem?_cons_succ, Option.some.injEq] at ho; subst ho; refine ⟨?_, Or.inl ⟨by rfl, fun W hSW => ?_⟩, ?_⟩; rotate_left; (focus (go_simp; first | done | with_reducible rfl)); try simp only [Act.put, List.setIfInBounds_toArray, List.set_cons_zero, List.set_cons_succ])
            (refine wpSeq_mov rfl rfl ?_; intro o ho; simp only [List.getElem?_toArray, List.getElem?_cons_zero, List.getElem?_cons_succ, Option.some.injEq] at ho; subst ho; refine ⟨?_, Or.inl ⟨by rfl, fun W hSW => ?_⟩, ?_⟩; rotate_left; (focus (go_simp; first | done | with_reducible rfl)); try simp only [Act.put, List.setIfInBounds_toArray, List.set_cons_zero, List.set_cons_succ])
            (refine wpSeq_mov rfl rfl ?_; intro o ho; simp only [List.getElem?_toArray, List.getElem?_cons_zero, List.getElem?_cons_succ, Option.some.injEq] at ho; subst ho; refine ⟨?_, Or.inl ⟨by rfl, fun W hSW => ?_⟩, ?_⟩; rotate_left; (focus (go_simp; first | done | with_reducible rfl)); try simp only [Act.put, List.setIfInBounds_toArray, List.set_cons_zero, List.set_cons_succ])
            (refine wpSeq_mov rfl rfl ?_; intro o ho; simp only [List.getElem?_toArray, List.getElem?_cons_zero, List.getElem?_cons_succ, Option.some.injEq] at ho; subst ho; refine ⟨?_, Or.inl ⟨by rfl, fun W hSW => ?_⟩, ?_⟩; rotate_left; (focus (go_simp; first | done | with_reducible rfl)); try simp only [Act.put, List.setIfInBounds_toArray, List.set_cons_zero, List.set_cons_succ])
            (refine wpSeq_mov rfl rfl ?_; intro o ho; simp only [List.getElem?_toArray, List.getElem?_cons_zero, List.getElem?_cons_succ, Option.some.injEq] at ho; subst ho; refine ⟨?_, Or.inl ⟨by rfl, fun W hSW => ?_⟩, ?_⟩; rotate_left; (focus (go_simp; first | done | with_reducible rfl)); try simp only [Act.put, List.setIfInBounds_toArray, List.set_cons_zero, List.set_cons_succ])
            (refine wpSeq_mov rfl rfl ?_; intro o ho; simp only [List.getElem?_toArray, List.getElem?_cons_zero, List.getElem?_cons_succ, Option.some.injEq] at ho; subst ho; refine ⟨?_, Or.inl ⟨by rfl, fun W hSW => ?_⟩, ?_⟩; rotate_left; (focus (go_simp; first | done | with_reducible rfl)); try simp only [Act.put, List.setIfInBounds_toArray, List.set_cons_zero, List.set_cons_succ])
            (refine wpSeq_mov rfl rfl ?_; intro o ho; simp only [List.getElem?_toArray, List.getElem?_cons_zero, List.getElem?_cons_succ, Option.some.injEq] at ho; subst ho; refine ⟨?_, Or.inl ⟨by rfl, fun W hSW => ?_⟩, ?_⟩; rotate_left; (focus (go_simp; first | done | with_reducible rfl)); try simp only [Act.put, List.setIfInBounds_toArray, List.set_cons_zero, List.set_cons_succ])
            (refine wpSeq_mov rfl rfl ?_; intro o ho; simp only [List.getElem?_toArray, List.getElem?_cons_zero, List.getElem?_cons_succ, Option.some.injEq] at ho; subst ho; refine ⟨?_, Or.inl ⟨by rfl, fun W hSW => ?_⟩, ?_⟩; rotate_left; (focus (go_simp; first | done | with_reducible rfl)); try simp only [Act.put, List.setIfInBounds_toArray, List.set_cons_zero, List.set_cons_succ])
            (refine wpSeq_mov rfl rfl ?_; intro o ho; simp only [List.getElem?_toArray, List.getElem?_cons_zero, List.getElem?_cons_succ, Option.some.injEq] at ho; subst ho; refine ⟨?_, Or.inl ⟨by rfl, fun W hSW => ?_⟩, ?_⟩; rotate_left; (focus (go_simp; first | done | with_reducible rfl)); try simp only [Act.put, List.setIfInBounds_toArray, List.set_cons_zero, List.set_cons_succ])
            (refine wpSeq_mov rfl rfl ?_; intro o ho; simp only [List.getElem?_toArray, List.getElem?_cons_zero, List.getElem?_cons_succ, Option.some.injEq] at ho; subst ho; refine ⟨?_, Or.inl ⟨by rfl, fun W hSW => ?_⟩, ?_⟩; rotate_left; (focus (go_simp; first | done | with_reducible rfl)); try simp only [Act.put, List.setIfInBounds_toArray, List.set_cons_zero, List.set_cons_succ])
            (refine wpSeq_mov rfl rfl ?_; intro o ho; simp only [List.getElem?_toArray, List.getElem?_cons_zero, List.getElem?_cons_succ, Option.some.injEq] at ho; subst ho; refine ⟨?_, Or.inl ⟨by rfl, fun W hSW => ?_⟩, ?_⟩; rotate_left; (focus (go_simp; first | done | with_reducible rfl)); try simp only [Act.put, List.setIfInBounds_toArray, List.set_cons_zero, List.set_cons_succ])
            (refine wpSeq_mov rfl rfl ?_; intro o ho; simp only [List.getElem?_toArray, List.getElem?_cons_zero, List.getElem?_cons_succ, Option.some.injEq] at ho; subst ho; refine ⟨?_, Or.inl ⟨by rfl, fun W hSW => ?_⟩, ?_⟩; rotate_left; (focus (go_simp; first | done | with_reducible rfl)); try simp only [Act.put, List.setIfInBounds_toArray, List.set_cons_zero, List.set_cons_succ])
            refine wpSeq_done ?_
            go_wp2_with fail
            go_roundw
            case rel => exact ⟨k + 1, by omega, by go_num, HLW.out.drew⟩
            case measure => simp [intOf]; omega
        · obtain rfl : k = LC.length := by omega
          have HLW := Lib.hid (below2 Hhb5.out Hhb5.out.size hlow)
          clear hlow
          go_wp2_with fail
          go_ret
          exact ⟨rfl, HLW.out⟩
end Go.Proofs.YtijecfmblddanaaDoor
