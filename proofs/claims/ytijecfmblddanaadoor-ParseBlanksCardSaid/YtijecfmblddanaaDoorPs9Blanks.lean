/- Parsing: ParseBlanks. -/
import Derived.Test.YtijecfmblddanaaDoorPGood
import Derived.Test.YtijecfmblddanaaDoorG12
import Derived.Test.YtijecfmblddanaaDoorG14
set_option linter.unusedVariables false
set_option linter.unusedSimpArgs false
namespace Go.Proofs.YtijecfmblddanaaDoor
open Go.RowKit Go.Maps

/-- What the law says of a text that has no wrong token. -/
theorem ktOf_alike {a b : List Tk} (h : Alike a b) : a.map ktOf = b.map ktOf := by
  refine List.ext_getElem? fun i => ?_
  rw [List.getElem?_map, List.getElem?_map]
  cases ha : a[i]? with
  | none =>
    have : b[i]? = none := by
      rw [List.getElem?_eq_none_iff] at ha ⊢
      rw [← h.1]
      exact ha
    rw [this]
  | some x =>
    cases hb : b[i]? with
    | none =>
      rw [List.getElem?_eq_none_iff, ← h.1, ← List.getElem?_eq_none_iff, ha] at hb
      cases hb
    | some y =>
      obtain ⟨e1, e2⟩ := h.2 i x y ha hb
      show some (x.kind, x.text) = some (y.kind, y.text)
      rw [e1, e2]
theorem wt_join : ∀ T : List Tk, wt (T.map ktOf) ≤ 16 * (joinT T).length
  | [] => Nat.zero_le _
  | x :: T => by
    have h := wt_join T
    unfold joinT at h ⊢
    rw [List.flatMap_cons, List.length_append, List.length_cons, List.map_cons]
    show 16 + x.text.length + wt (T.map ktOf) ≤ _
    omega
theorem blanks_law (l : List UInt8) (hb : lexBad l = false) (hl : l.length ≤ 600) : ∃ (f : Fm) (e : Int) (p q : Nat), parseOf l = (f, e, p) ∧ parseOf (joinT (lexToks l)) = (f, e, q) ∧ (e = 0 → f.ok = true ∧ f.txt.length ≤ 20000) := by
  obtain ⟨q1, q2, q3⟩ := back_law l hb
  have hk := ktOf_alike q2
  refine ⟨(parseT ((lexToks l).map ktOf)).1, (parseT ((lexToks l).map ktOf)).2.1, tokPlace (lexToks l) (parseT ((lexToks l).map ktOf)).2.1 (parseT ((lexToks l).map ktOf)).2.2, tokPlace (lexToks (joinT (lexToks l))) (parseT ((lexToks l).map ktOf)).2.1 (parseT ((lexToks l).map ktOf)).2.2, ?_, ?_, ?_⟩
  · unfold parseOf
    rw [if_neg (by omega), if_neg (by simp [hb])]
  · unfold parseOf
    rw [if_neg (by omega), if_neg (by simp [q1]), ← hk]
  · intro he
    have hw := wt_join (lexToks l)
    obtain ⟨g1, g2⟩ := parseT_good ((lexToks l).map ktOf) (parseT ((lexToks l).map ktOf)).1 (parseT ((lexToks l).map ktOf)).2.2 (by rw [← he])
    exact ⟨g1, by omega⟩

set_option maxRecDepth 100000 in
set_option maxHeartbeats 4000000 in
theorem parseBlanks_any (s : ByteArray) (l : List Int) (A0 : Option Addr) (c0 : Nat) (small : Bool) (w : World) (hs : s.size ≤ 140737488355328) (hr : ∀ x ∈ l, 0 ≤ x ∧ x ≤ 255) (hc : l.length ≤ c0) (hl : c0 ≤ 140737488355328) (hA : Vals w w.heap.size A0 (l.map (.int .u8 ·))) :
    Calls Tryd.prog 14 #[.string s, .slice A0 l.length c0, .bool small] w (Ret w (.bool true)) := by
  have hps : (⟨(piecesL l).toArray⟩ : ByteArray).size ≤ 600 := by
    show (piecesL l).toArray.size ≤ _
    rw [List.size_toArray]
    have := piecesTo_len l (min l.length 20)
    unfold piecesL
    omega
  have HP := Lib.hid (fun w h => pieces_any l A0 c0 w hc hr (by omega) h)
  have HA := Lib.hid hA
  generalize (⟨(piecesL l).toArray⟩ : ByteArray) = Pc at hps HP
  clear hA hr
  cases small with
  | true =>
    go_enter Tryd.func14, Tryd.ntmps14
    go_wp2_with fail
    refine (awake9_any _).mono ?_
    rintro e w0 ⟨rfl, hb0⟩
    have HB0 := Lib.hid hb0
    clear hb0
    go_wp2_with fail
    refine (HP.out _ (HA.out.after HB0.out)).mono ?_
    rintro e w1 ⟨rfl, hb1⟩
    have HB1 := Lib.hid (step2 HB0.out hb1)
    obtain ⟨X, hX⟩ : ∃ X, X = Pc := ⟨_, rfl⟩
    rw [← hX] at hps ⊢
    clear hb1 hX HP
    go_wp2_with fail
    have HQ0 := Lib.hid (fun W => parse_any X (by omega) W)
    have HL := Lib.hid (fun w => lex_any X (by omega) w)
    have hlo : lexOf X.data.toList = if lexBad X.data.toList then ([], 40, (lexPlace X.data.toList : Int)) else (lexToks X.data.toList, 0, 0) := by
      unfold lexOf
      rw [show X.data.toList.length = X.size from Array.length_toList, if_neg (by omega)]
    cases hbad : lexBad X.data.toList with
    | true =>
      rw [hbad, if_pos rfl] at hlo
      rw [hlo] at HL
      have hpo : parseOf X.data.toList = (fm0, 40, lexPlace X.data.toList) := by
        unfold parseOf
        rw [if_neg (by rw [show X.data.toList.length = X.size from Array.length_toList]; omega), if_pos hbad]
      rw [hpo] at HQ0
      generalize lexPlace X.data.toList = pl at HL HQ0 hpo hlo
      generalize fm0 = f at HQ0 hpo
      clear hlo hbad hpo
      refine (HQ0.out w1).mono ?_
      rintro e w2 ⟨A, c, rfl, hv, hb⟩
      have HB2 := Lib.hid (step2 HB1.out (step2 hb (stepA w2 (.cells #[.int .i64 f.kind, .string ⟨f.name.toArray⟩, .int .i64 f.lit, .slice A f.kids.length c] 37))))
      clear hv hb HQ0
      dsimp only [fmA]
      go_wp2_with fail
      generalize (w2.alloc (.cells #[.int .i64 f.kind, .string ⟨f.name.toArray⟩, .int .i64 f.lit, .slice A f.kids.length c] 37)) = v2 at HB2 ⊢
      refine (HL.out _).mono ?_
      rintro e w3 ⟨A2, c2, rfl, hc, hv, hb2⟩
      have HB3 := Lib.hid (step2 HB2.out hb2)
      clear hb2 hv
      go_wp2_with fail
      go_ret
      exact ⟨rfl, HB3.out⟩
    | false =>
      rw [hbad, if_neg (by simp)] at hlo
      rw [hlo] at HL
      have hXl : X.data.toList.length ≤ 600 := by rw [show X.data.toList.length = X.size from Array.length_toList]; omega
      obtain ⟨q1, q2, q3⟩ := back_law _ hbad
      obtain ⟨f, er, p, q, hp1, hp2, hp3⟩ := blanks_law _ hbad hXl
      have HTP : Hid (∀ (i : Nat) (t : Tk), (lexToks X.data.toList)[i]? = some t → t.text.length ≤ 600) := Lib.hid (fun i t h => by
        have := (tok_place h).1
        omega)
      rw [hp1] at HQ0
      generalize lexToks X.data.toList = T at HL q1 q2 q3 HTP hlo hp2
      have hTl : T.length ≤ 1201 := by
        have : T.length ≤ (joinT T).length := by
          clear q1 q2 q3 HTP HL hlo hp1 hp2 hp3 HQ0
          induction T with
          | nil => simp
          | cons a T ih =>
            unfold joinT at ih ⊢
            rw [List.flatMap_cons, List.length_append, List.length_cons, List.length_cons]
            omega
        omega
      have hjT : (joinT T).length ≤ 1201 := by omega
      have HY0 : Hid (∀ W, Calls Tryd.prog 31 #[.string ⟨(joinT T).toArray⟩] W (ParsePost W (f, er, q))) := Lib.hid fun W => by
        have h := parse_any ⟨(joinT T).toArray⟩ (by show (joinT T).toArray.size ≤ _; rw [List.size_toArray]; omega) W
        rwa [show (⟨(joinT T).toArray⟩ : ByteArray).data.toList = joinT T from rfl, hp2] at h
      have hsame : f.same f = true := (Fm.same_iff f f).2 rfl
      have HSA := Lib.hid (rsame_any (f.sz + 1) f (Nat.lt_succ_self _) f)
      rw [hsame] at HSA
      have HP3 := Lib.hid hp3
      have hne : (er != er) = false := by simp
      clear hbad hlo q1 q2 q3 hp1 hp2 hp3 hsame hXl
      refine (HQ0.out w1).mono ?_
      rintro e w2 ⟨A, c, rfl, hv, hb⟩
      have hst := stepA w2 (.cells #[.int .i64 f.kind, .string ⟨f.name.toArray⟩, .int .i64 f.lit, .slice A f.kids.length c] 37)
      have HV := Lib.hid (FmV.after (show FmV w2 w2.heap.size f A c from hv) hst)
      have HX := Lib.hid (Blk.new w2 37 #[.int .i64 f.kind, .string ⟨f.name.toArray⟩, .int .i64 f.lit, .slice A f.kids.length c])
      have HB2 := Lib.hid (step2 HB1.out (step2 hb hst))
      clear hv hb hst HQ0
      dsimp only [fmA]
      go_wp2_with fail
      generalize (w2.alloc (.cells #[.int .i64 f.kind, .string ⟨f.name.toArray⟩, .int .i64 f.lit, .slice A f.kids.length c] 37)) = v2 at HV HX HB2 ⊢
      generalize w2.heap.size = a at HX ⊢
      refine (HL.out _).mono ?_
      rintro e w3 ⟨A2, c2, rfl, hc, hv, hb⟩
      have HTV := Lib.hid hv
      have HV3 := Lib.hid (HV.out.after hb)
      have HX3 := Lib.hid (HX.out.below hb HX.out.lt)
      have HB3 := Lib.hid (step2 HB2.out hb)
      clear hb hv HV HX HB2 HL
      go_wp2_with fail
      go_loopw [14, 15] (fun sv iv wr => ∃ k : Nat, k ≤ T.length ∧ iv = .int .i64 (k : Int) ∧ sv = .string ⟨(joinT (T.take k)).toArray⟩ ∧ wr = w3) (fun _ iv _ => T.length - (intOf iv).toNat)
      case atStart => exact ⟨0, Nat.zero_le _, rfl, rfl, rfl⟩
      case round =>
        obtain ⟨k, hk, rfl, rfl, rfl⟩ := hrel
        by_cases hlt : k < T.length
        · have hlt' : (k : Int) < (T.length : Int) := by omega
          obtain ⟨t, ht⟩ : ∃ t, T[k]? = some t := ⟨_, List.getElem?_eq_getElem hlt⟩
          obtain ⟨b, o, rfl, hb, c0, c1, c2⟩ := tk_cells HTV.out ht
          have htl := HTP.out k t ht
          have HSN : Hid (joinT (T.take (k + 1)) = (joinT (T.take k) ++ [32]) ++ t.text) := Lib.hid (by
            rw [List.take_add_one, ht]
            exact joinT_snoc _ _)
          have hjl := joinT_take T k
          have HJ1 := Lib.hid (str_app (joinT (T.take k)) [32])
          have HJ2 := Lib.hid (str_app (joinT (T.take k) ++ [32]) t.text)
          have hs1 : (⟨(joinT (T.take k)).toArray⟩ : ByteArray).size + 1 ≤ 9223372036854775807 := by
            show (joinT (T.take k)).toArray.size + 1 ≤ _
            rw [List.size_toArray]
            omega
          have hs2 : (⟨(joinT (T.take k)).toArray⟩ : ByteArray).size + 1 + (⟨t.text.toArray⟩ : ByteArray).size ≤ 9223372036854775807 := by
            show (joinT (T.take k)).toArray.size + 1 + t.text.toArray.size ≤ _
            rw [List.size_toArray, List.size_toArray]
            omega
          rw [show (⟨[32].toArray⟩ : ByteArray) = ⟨#[32]⟩ from rfl] at HJ1
          generalize (⟨(joinT (T.take k) ++ [32]).toArray⟩ : ByteArray) = S1 at HJ1 HJ2
          generalize (⟨(joinT (T.take k)).toArray⟩ : ByteArray) = S0 at HJ1 hs1 hs2 ⊢
          generalize (⟨t.text.toArray⟩ : ByteArray) = TX at c1 HJ2 hs2
          clear ht hjl
          go_wp2_with fail
          go_roundw
          case rel => exact ⟨k + 1, by omega, by go_num, by rw [HSN.out, ← HJ2.out, ← HJ1.out], (by first | rfl | trivial)⟩
          case measure => simp [intOf]; omega
        · obtain rfl : k = T.length := by omega
          rw [List.take_length]
          generalize (⟨(joinT T).toArray⟩ : ByteArray) = Y at HY0 ⊢
          go_wp2_with fail
          refine (HY0.out _).mono ?_
          rintro e w5 ⟨D, g, rfl, hv, hb⟩
          have hst := stepA w5 (.cells #[.int .i64 f.kind, .string ⟨f.name.toArray⟩, .int .i64 f.lit, .slice D f.kids.length g] 37)
          have HV5 := Lib.hid (HV3.out.after (step2 hb hst))
          have HU5 := Lib.hid (FmV.after (show FmV w5 w5.heap.size f D g from hv) hst)
          have HX5 := Lib.hid ((HX3.out.below hb HX3.out.lt).alloc (.cells #[.int .i64 f.kind, .string ⟨f.name.toArray⟩, .int .i64 f.lit, .slice D f.kids.length g] 37))
          have HY5 := Lib.hid (Blk.new w5 37 #[.int .i64 f.kind, .string ⟨f.name.toArray⟩, .int .i64 f.lit, .slice D f.kids.length g])
          have HB5 := Lib.hid (step2 HB3.out (step2 hb hst))
          clear hv hb hst HV3 HX3 HB3 HY0
          have x0 := HX5.out.cell 0
          have x1 := HX5.out.cell 1
          have x2 := HX5.out.cell 2
          have x3 := HX5.out.cell 3
          have y0 := HY5.out.cell 0
          have y1 := HY5.out.cell 1
          have y2 := HY5.out.cell 2
          have y3 := HY5.out.cell 3
          dsimp only [fmA]
          go_wp2_with fail
          clear x0 x1 x2 x3 y0 y1 y2 y3
          generalize (w5.alloc (.cells #[.int .i64 f.kind, .string ⟨f.name.toArray⟩, .int .i64 f.lit, .slice D f.kids.length g] 37)) = v5 at HV5 HU5 HX5 HY5 HB5 ⊢
          refine (HSA.out v5 v5.heap.size A D c g HV5.out HU5.out (Nat.le_refl _)).mono ?_
          rintro e w6 ⟨rfl, hb⟩
          have HV6 := Lib.hid (HV5.out.after hb)
          have HX6 := Lib.hid (HX5.out.below hb HX5.out.lt)
          have HB6 := Lib.hid (step2 HB5.out hb)
          clear hb HV5 HU5 HX5 HY5 HB5
          by_cases he : er = 0
          · obtain ⟨hok, htl⟩ := HP3.out he
            subst he
            have hpr : f.print = (f.txt, 0) := by unfold Fm.print; rw [if_pos hok]
            have HPR : Hid (∀ A c W, FmV W W.heap.size f A c → Calls Tryd.prog 27 #[fmA f A c] W (Ret W (.tuple #[.string ⟨f.txt.toArray⟩, .int .i64 0]))) := Lib.hid fun A c W h => by
              have h2 := print_any f A c W h
              rw [hpr] at h2
              exact h2
            have HZ : Hid (∀ W, Calls Tryd.prog 31 #[.string ⟨f.txt.toArray⟩] W (ParsePost W (f, 0, 0))) := Lib.hid fun W => by
              have h := parse_any ⟨f.txt.toArray⟩ (by show f.txt.toArray.size ≤ _; rw [List.size_toArray]; omega) W
              rwa [show (⟨f.txt.toArray⟩ : ByteArray).data.toList = f.txt from rfl, parseOf_txt hok htl] at h
            clear hok htl hpr
            generalize (⟨f.txt.toArray⟩ : ByteArray) = U at HPR HZ
            have x0 := HX6.out.cell 0
            have x1 := HX6.out.cell 1
            have x2 := HX6.out.cell 2
            have x3 := HX6.out.cell 3
            go_wp2_with fail
            clear x0 x1 x2 x3
            refine (HPR.out A c w6 HV6.out).mono ?_
            rintro e w7 ⟨rfl, hb⟩
            have HV7 := Lib.hid (HV6.out.after hb)
            have HX7 := Lib.hid (HX6.out.below hb HX6.out.lt)
            have HB7 := Lib.hid (step2 HB6.out hb)
            clear hb HV6 HX6 HB6
            go_wp2_with fail
            refine (HZ.out w7).mono ?_
            rintro e w8 ⟨E, h, rfl, hv, hb⟩
            have hst := stepA w8 (.cells #[.int .i64 f.kind, .string ⟨f.name.toArray⟩, .int .i64 f.lit, .slice E f.kids.length h] 37)
            have HV8 := Lib.hid (HV7.out.after (step2 hb hst))
            have HU8 := Lib.hid (FmV.after (show FmV w8 w8.heap.size f E h from hv) hst)
            have HX8 := Lib.hid ((HX7.out.below hb HX7.out.lt).alloc (.cells #[.int .i64 f.kind, .string ⟨f.name.toArray⟩, .int .i64 f.lit, .slice E f.kids.length h] 37))
            have HY8 := Lib.hid (Blk.new w8 37 #[.int .i64 f.kind, .string ⟨f.name.toArray⟩, .int .i64 f.lit, .slice E f.kids.length h])
            have HB8 := Lib.hid (step2 HB7.out (step2 hb hst))
            clear hv hb hst HV7 HX7 HB7
            have x0 := HX8.out.cell 0
            have x1 := HX8.out.cell 1
            have x2 := HX8.out.cell 2
            have x3 := HX8.out.cell 3
            have y0 := HY8.out.cell 0
            have y1 := HY8.out.cell 1
            have y2 := HY8.out.cell 2
            have y3 := HY8.out.cell 3
            dsimp only [fmA]
            go_wp2_with fail
            clear x0 x1 x2 x3 y0 y1 y2 y3
            generalize (w8.alloc (.cells #[.int .i64 f.kind, .string ⟨f.name.toArray⟩, .int .i64 f.lit, .slice E f.kids.length h] 37)) = v8 at HV8 HU8 HX8 HY8 HB8 ⊢
            refine (HSA.out v8 v8.heap.size A E c h HV8.out HU8.out (Nat.le_refl _)).mono ?_
            rintro e w9 ⟨rfl, hb⟩
            have HB9 := Lib.hid (step2 HB8.out hb)
            clear hb
            go_wp2_with fail
            go_ret
            exact ⟨rfl, HB9.out⟩
          · have hee : (er != 0) = true := by simp [he]
            have hee2 : (er == 0) = false := by simp [he]
            clear he
            go_wp2_with fail
            go_ret
            exact ⟨rfl, HB6.out⟩
  | false =>
    by_cases h6 : 600 < s.size
    · have h6' : (600 : Int) < (s.size : Int) := by omega
      go_enter Tryd.func14, Tryd.ntmps14
      go_wp2_with fail
      refine (awake9_any _).mono ?_
      rintro e w0 ⟨rfl, hb0⟩
      have HB0 := Lib.hid hb0
      clear hb0
      go_wp2_with fail
      refine (HP.out _ (HA.out.after HB0.out)).mono ?_
      rintro e w1 ⟨rfl, hb1⟩
      have HB1 := Lib.hid (step2 HB0.out hb1)
      obtain ⟨X, hX⟩ : ∃ X, X = Pc := ⟨_, rfl⟩
      rw [← hX] at hps ⊢
      clear hb1 hX HP
      go_wp2_with fail
      have HQ0 := Lib.hid (fun W => parse_any X (by omega) W)
      have HL := Lib.hid (fun w => lex_any X (by omega) w)
      have hlo : lexOf X.data.toList = if lexBad X.data.toList then ([], 40, (lexPlace X.data.toList : Int)) else (lexToks X.data.toList, 0, 0) := by
        unfold lexOf
        rw [show X.data.toList.length = X.size from Array.length_toList, if_neg (by omega)]
      cases hbad : lexBad X.data.toList with
      | true =>
        rw [hbad, if_pos rfl] at hlo
        rw [hlo] at HL
        have hpo : parseOf X.data.toList = (fm0, 40, lexPlace X.data.toList) := by
          unfold parseOf
          rw [if_neg (by rw [show X.data.toList.length = X.size from Array.length_toList]; omega), if_pos hbad]
        rw [hpo] at HQ0
        generalize lexPlace X.data.toList = pl at HL HQ0 hpo hlo
        generalize fm0 = f at HQ0 hpo
        clear hlo hbad hpo
        refine (HQ0.out w1).mono ?_
        rintro e w2 ⟨A, c, rfl, hv, hb⟩
        have HB2 := Lib.hid (step2 HB1.out (step2 hb (stepA w2 (.cells #[.int .i64 f.kind, .string ⟨f.name.toArray⟩, .int .i64 f.lit, .slice A f.kids.length c] 37))))
        clear hv hb HQ0
        dsimp only [fmA]
        go_wp2_with fail
        generalize (w2.alloc (.cells #[.int .i64 f.kind, .string ⟨f.name.toArray⟩, .int .i64 f.lit, .slice A f.kids.length c] 37)) = v2 at HB2 ⊢
        refine (HL.out _).mono ?_
        rintro e w3 ⟨A2, c2, rfl, hc, hv, hb2⟩
        have HB3 := Lib.hid (step2 HB2.out hb2)
        clear hb2 hv
        go_wp2_with fail
        go_ret
        exact ⟨rfl, HB3.out⟩
      | false =>
        rw [hbad, if_neg (by simp)] at hlo
        rw [hlo] at HL
        have hXl : X.data.toList.length ≤ 600 := by rw [show X.data.toList.length = X.size from Array.length_toList]; omega
        obtain ⟨q1, q2, q3⟩ := back_law _ hbad
        obtain ⟨f, er, p, q, hp1, hp2, hp3⟩ := blanks_law _ hbad hXl
        have HTP : Hid (∀ (i : Nat) (t : Tk), (lexToks X.data.toList)[i]? = some t → t.text.length ≤ 600) := Lib.hid (fun i t h => by
          have := (tok_place h).1
          omega)
        rw [hp1] at HQ0
        generalize lexToks X.data.toList = T at HL q1 q2 q3 HTP hlo hp2
        have hTl : T.length ≤ 1201 := by
          have : T.length ≤ (joinT T).length := by
            clear q1 q2 q3 HTP HL hlo hp1 hp2 hp3 HQ0
            induction T with
            | nil => simp
            | cons a T ih =>
              unfold joinT at ih ⊢
              rw [List.flatMap_cons, List.length_append, List.length_cons, List.length_cons]
              omega
          omega
        have hjT : (joinT T).length ≤ 1201 := by omega
        have HY0 : Hid (∀ W, Calls Tryd.prog 31 #[.string ⟨(joinT T).toArray⟩] W (ParsePost W (f, er, q))) := Lib.hid fun W => by
          have h := parse_any ⟨(joinT T).toArray⟩ (by show (joinT T).toArray.size ≤ _; rw [List.size_toArray]; omega) W
          rwa [show (⟨(joinT T).toArray⟩ : ByteArray).data.toList = joinT T from rfl, hp2] at h
        have hsame : f.same f = true := (Fm.same_iff f f).2 rfl
        have HSA := Lib.hid (rsame_any (f.sz + 1) f (Nat.lt_succ_self _) f)
        rw [hsame] at HSA
        have HP3 := Lib.hid hp3
        have hne : (er != er) = false := by simp
        clear hbad hlo q1 q2 q3 hp1 hp2 hp3 hsame hXl
        refine (HQ0.out w1).mono ?_
        rintro e w2 ⟨A, c, rfl, hv, hb⟩
        have hst := stepA w2 (.cells #[.int .i64 f.kind, .string ⟨f.name.toArray⟩, .int .i64 f.lit, .slice A f.kids.length c] 37)
        have HV := Lib.hid (FmV.after (show FmV w2 w2.heap.size f A c from hv) hst)
        have HX := Lib.hid (Blk.new w2 37 #[.int .i64 f.kind, .string ⟨f.name.toArray⟩, .int .i64 f.lit, .slice A f.kids.length c])
        have HB2 := Lib.hid (step2 HB1.out (step2 hb hst))
        clear hv hb hst HQ0
        dsimp only [fmA]
        go_wp2_with fail
        generalize (w2.alloc (.cells #[.int .i64 f.kind, .string ⟨f.name.toArray⟩, .int .i64 f.lit, .slice A f.kids.length c] 37)) = v2 at HV HX HB2 ⊢
        generalize w2.heap.size = a at HX ⊢
        refine (HL.out _).mono ?_
        rintro e w3 ⟨A2, c2, rfl, hc, hv, hb⟩
        have HTV := Lib.hid hv
        have HV3 := Lib.hid (HV.out.after hb)
        have HX3 := Lib.hid (HX.out.below hb HX.out.lt)
        have HB3 := Lib.hid (step2 HB2.out hb)
        clear hb hv HV HX HB2 HL
        go_wp2_with fail
        go_loopw [14, 15] (fun sv iv wr => ∃ k : Nat, k ≤ T.length ∧ iv = .int .i64 (k : Int) ∧ sv = .string ⟨(joinT (T.take k)).toArray⟩ ∧ wr = w3) (fun _ iv _ => T.length - (intOf iv).toNat)
        case atStart => exact ⟨0, Nat.zero_le _, rfl, rfl, rfl⟩
        case round =>
          obtain ⟨k, hk, rfl, rfl, rfl⟩ := hrel
          by_cases hlt : k < T.length
          · have hlt' : (k : Int) < (T.length : Int) := by omega
            obtain ⟨t, ht⟩ : ∃ t, T[k]? = some t := ⟨_, List.getElem?_eq_getElem hlt⟩
            obtain ⟨b, o, rfl, hb, c0, c1, c2⟩ := tk_cells HTV.out ht
            have htl := HTP.out k t ht
            have HSN : Hid (joinT (T.take (k + 1)) = (joinT (T.take k) ++ [32]) ++ t.text) := Lib.hid (by
              rw [List.take_add_one, ht]
              exact joinT_snoc _ _)
            have hjl := joinT_take T k
            have HJ1 := Lib.hid (str_app (joinT (T.take k)) [32])
            have HJ2 := Lib.hid (str_app (joinT (T.take k) ++ [32]) t.text)
            have hs1 : (⟨(joinT (T.take k)).toArray⟩ : ByteArray).size + 1 ≤ 9223372036854775807 := by
              show (joinT (T.take k)).toArray.size + 1 ≤ _
              rw [List.size_toArray]
              omega
            have hs2 : (⟨(joinT (T.take k)).toArray⟩ : ByteArray).size + 1 + (⟨t.text.toArray⟩ : ByteArray).size ≤ 9223372036854775807 := by
              show (joinT (T.take k)).toArray.size + 1 + t.text.toArray.size ≤ _
              rw [List.size_toArray, List.size_toArray]
              omega
            rw [show (⟨[32].toArray⟩ : ByteArray) = ⟨#[32]⟩ from rfl] at HJ1
            generalize (⟨(joinT (T.take k) ++ [32]).toArray⟩ : ByteArray) = S1 at HJ1 HJ2
            generalize (⟨(joinT (T.take k)).toArray⟩ : ByteArray) = S0 at HJ1 hs1 hs2 ⊢
            generalize (⟨t.text.toArray⟩ : ByteArray) = TX at c1 HJ2 hs2
            clear ht hjl
            go_wp2_with fail
            go_roundw
            case rel => exact ⟨k + 1, by omega, by go_num, by rw [HSN.out, ← HJ2.out, ← HJ1.out], (by first | rfl | trivial)⟩
            case measure => simp [intOf]; omega
          · obtain rfl : k = T.length := by omega
            rw [List.take_length]
            generalize (⟨(joinT T).toArray⟩ : ByteArray) = Y at HY0 ⊢
            go_wp2_with fail
            refine (HY0.out _).mono ?_
            rintro e w5 ⟨D, g, rfl, hv, hb⟩
            have hst := stepA w5 (.cells #[.int .i64 f.kind, .string ⟨f.name.toArray⟩, .int .i64 f.lit, .slice D f.kids.length g] 37)
            have HV5 := Lib.hid (HV3.out.after (step2 hb hst))
            have HU5 := Lib.hid (FmV.after (show FmV w5 w5.heap.size f D g from hv) hst)
            have HX5 := Lib.hid ((HX3.out.below hb HX3.out.lt).alloc (.cells #[.int .i64 f.kind, .string ⟨f.name.toArray⟩, .int .i64 f.lit, .slice D f.kids.length g] 37))
            have HY5 := Lib.hid (Blk.new w5 37 #[.int .i64 f.kind, .string ⟨f.name.toArray⟩, .int .i64 f.lit, .slice D f.kids.length g])
            have HB5 := Lib.hid (step2 HB3.out (step2 hb hst))
            clear hv hb hst HV3 HX3 HB3 HY0
            have x0 := HX5.out.cell 0
            have x1 := HX5.out.cell 1
            have x2 := HX5.out.cell 2
            have x3 := HX5.out.cell 3
            have y0 := HY5.out.cell 0
            have y1 := HY5.out.cell 1
            have y2 := HY5.out.cell 2
            have y3 := HY5.out.cell 3
            dsimp only [fmA]
            go_wp2_with fail
            clear x0 x1 x2 x3 y0 y1 y2 y3
            generalize (w5.alloc (.cells #[.int .i64 f.kind, .string ⟨f.name.toArray⟩, .int .i64 f.lit, .slice D f.kids.length g] 37)) = v5 at HV5 HU5 HX5 HY5 HB5 ⊢
            refine (HSA.out v5 v5.heap.size A D c g HV5.out HU5.out (Nat.le_refl _)).mono ?_
            rintro e w6 ⟨rfl, hb⟩
            have HV6 := Lib.hid (HV5.out.after hb)
            have HX6 := Lib.hid (HX5.out.below hb HX5.out.lt)
            have HB6 := Lib.hid (step2 HB5.out hb)
            clear hb HV5 HU5 HX5 HY5 HB5
            by_cases he : er = 0
            · obtain ⟨hok, htl⟩ := HP3.out he
              subst he
              have hpr : f.print = (f.txt, 0) := by unfold Fm.print; rw [if_pos hok]
              have HPR : Hid (∀ A c W, FmV W W.heap.size f A c → Calls Tryd.prog 27 #[fmA f A c] W (Ret W (.tuple #[.string ⟨f.txt.toArray⟩, .int .i64 0]))) := Lib.hid fun A c W h => by
                have h2 := print_any f A c W h
                rw [hpr] at h2
                exact h2
              have HZ : Hid (∀ W, Calls Tryd.prog 31 #[.string ⟨f.txt.toArray⟩] W (ParsePost W (f, 0, 0))) := Lib.hid fun W => by
                have h := parse_any ⟨f.txt.toArray⟩ (by show f.txt.toArray.size ≤ _; rw [List.size_toArray]; omega) W
                rwa [show (⟨f.txt.toArray⟩ : ByteArray).data.toList = f.txt from rfl, parseOf_txt hok htl] at h
              clear hok htl hpr
              generalize (⟨f.txt.toArray⟩ : ByteArray) = U at HPR HZ
              have x0 := HX6.out.cell 0
              have x1 := HX6.out.cell 1
              have x2 := HX6.out.cell 2
              have x3 := HX6.out.cell 3
              go_wp2_with fail
              clear x0 x1 x2 x3
              refine (HPR.out A c w6 HV6.out).mono ?_
              rintro e w7 ⟨rfl, hb⟩
              have HV7 := Lib.hid (HV6.out.after hb)
              have HX7 := Lib.hid (HX6.out.below hb HX6.out.lt)
              have HB7 := Lib.hid (step2 HB6.out hb)
              clear hb HV6 HX6 HB6
              go_wp2_with fail
              refine (HZ.out w7).mono ?_
              rintro e w8 ⟨E, h, rfl, hv, hb⟩
              have hst := stepA w8 (.cells #[.int .i64 f.kind, .string ⟨f.name.toArray⟩, .int .i64 f.lit, .slice E f.kids.length h] 37)
              have HV8 := Lib.hid (HV7.out.after (step2 hb hst))
              have HU8 := Lib.hid (FmV.after (show FmV w8 w8.heap.size f E h from hv) hst)
              have HX8 := Lib.hid ((HX7.out.below hb HX7.out.lt).alloc (.cells #[.int .i64 f.kind, .string ⟨f.name.toArray⟩, .int .i64 f.lit, .slice E f.kids.length h] 37))
              have HY8 := Lib.hid (Blk.new w8 37 #[.int .i64 f.kind, .string ⟨f.name.toArray⟩, .int .i64 f.lit, .slice E f.kids.length h])
              have HB8 := Lib.hid (step2 HB7.out (step2 hb hst))
              clear hv hb hst HV7 HX7 HB7
              have x0 := HX8.out.cell 0
              have x1 := HX8.out.cell 1
              have x2 := HX8.out.cell 2
              have x3 := HX8.out.cell 3
              have y0 := HY8.out.cell 0
              have y1 := HY8.out.cell 1
              have y2 := HY8.out.cell 2
              have y3 := HY8.out.cell 3
              dsimp only [fmA]
              go_wp2_with fail
              clear x0 x1 x2 x3 y0 y1 y2 y3
              generalize (w8.alloc (.cells #[.int .i64 f.kind, .string ⟨f.name.toArray⟩, .int .i64 f.lit, .slice E f.kids.length h] 37)) = v8 at HV8 HU8 HX8 HY8 HB8 ⊢
              refine (HSA.out v8 v8.heap.size A E c h HV8.out HU8.out (Nat.le_refl _)).mono ?_
              rintro e w9 ⟨rfl, hb⟩
              have HB9 := Lib.hid (step2 HB8.out hb)
              clear hb
              go_wp2_with fail
              go_ret
              exact ⟨rfl, HB9.out⟩
            · have hee : (er != 0) = true := by simp [he]
              have hee2 : (er == 0) = false := by simp [he]
              clear he
              go_wp2_with fail
              go_ret
              exact ⟨rfl, HB6.out⟩
    · have h6' : ¬ ((600 : Int) < (s.size : Int)) := by omega
      clear hps
      have hps : s.size ≤ 600 := by omega
      go_enter Tryd.func14, Tryd.ntmps14
      go_wp2_with fail
      refine (awake9_any _).mono ?_
      rintro e w0 ⟨rfl, hb0⟩
      have HB0 := Lib.hid hb0
      clear hb0
      go_wp2_with fail
      obtain ⟨w1, rfl⟩ : ∃ w1, w1 = w0 := ⟨_, rfl⟩
      have HB1 := HB0
      obtain ⟨X, hX⟩ : ∃ X, X = s := ⟨_, rfl⟩
      subst hX
      clear HP
      have HQ0 := Lib.hid (fun W => parse_any X (by omega) W)
      have HL := Lib.hid (fun w => lex_any X (by omega) w)
      have hlo : lexOf X.data.toList = if lexBad X.data.toList then ([], 40, (lexPlace X.data.toList : Int)) else (lexToks X.data.toList, 0, 0) := by
        unfold lexOf
        rw [show X.data.toList.length = X.size from Array.length_toList, if_neg (by omega)]
      cases hbad : lexBad X.data.toList with
      | true =>
        rw [hbad, if_pos rfl] at hlo
        rw [hlo] at HL
        have hpo : parseOf X.data.toList = (fm0, 40, lexPlace X.data.toList) := by
          unfold parseOf
          rw [if_neg (by rw [show X.data.toList.length = X.size from Array.length_toList]; omega), if_pos hbad]
        rw [hpo] at HQ0
        generalize lexPlace X.data.toList = pl at HL HQ0 hpo hlo
        generalize fm0 = f at HQ0 hpo
        clear hlo hbad hpo
        refine (HQ0.out w1).mono ?_
        rintro e w2 ⟨A, c, rfl, hv, hb⟩
        have HB2 := Lib.hid (step2 HB1.out (step2 hb (stepA w2 (.cells #[.int .i64 f.kind, .string ⟨f.name.toArray⟩, .int .i64 f.lit, .slice A f.kids.length c] 37))))
        clear hv hb HQ0
        dsimp only [fmA]
        go_wp2_with fail
        generalize (w2.alloc (.cells #[.int .i64 f.kind, .string ⟨f.name.toArray⟩, .int .i64 f.lit, .slice A f.kids.length c] 37)) = v2 at HB2 ⊢
        refine (HL.out _).mono ?_
        rintro e w3 ⟨A2, c2, rfl, hc, hv, hb2⟩
        have HB3 := Lib.hid (step2 HB2.out hb2)
        clear hb2 hv
        go_wp2_with fail
        go_ret
        exact ⟨rfl, HB3.out⟩
      | false =>
        rw [hbad, if_neg (by simp)] at hlo
        rw [hlo] at HL
        have hXl : X.data.toList.length ≤ 600 := by rw [show X.data.toList.length = X.size from Array.length_toList]; omega
        obtain ⟨q1, q2, q3⟩ := back_law _ hbad
        obtain ⟨f, er, p, q, hp1, hp2, hp3⟩ := blanks_law _ hbad hXl
        have HTP : Hid (∀ (i : Nat) (t : Tk), (lexToks X.data.toList)[i]? = some t → t.text.length ≤ 600) := Lib.hid (fun i t h => by
          have := (tok_place h).1
          omega)
        rw [hp1] at HQ0
        generalize lexToks X.data.toList = T at HL q1 q2 q3 HTP hlo hp2
        have hTl : T.length ≤ 1201 := by
          have : T.length ≤ (joinT T).length := by
            clear q1 q2 q3 HTP HL hlo hp1 hp2 hp3 HQ0
            induction T with
            | nil => simp
            | cons a T ih =>
              unfold joinT at ih ⊢
              rw [List.flatMap_cons, List.length_append, List.length_cons, List.length_cons]
              omega
          omega
        have hjT : (joinT T).length ≤ 1201 := by omega
        have HY0 : Hid (∀ W, Calls Tryd.prog 31 #[.string ⟨(joinT T).toArray⟩] W (ParsePost W (f, er, q))) := Lib.hid fun W => by
          have h := parse_any ⟨(joinT T).toArray⟩ (by show (joinT T).toArray.size ≤ _; rw [List.size_toArray]; omega) W
          rwa [show (⟨(joinT T).toArray⟩ : ByteArray).data.toList = joinT T from rfl, hp2] at h
        have hsame : f.same f = true := (Fm.same_iff f f).2 rfl
        have HSA := Lib.hid (rsame_any (f.sz + 1) f (Nat.lt_succ_self _) f)
        rw [hsame] at HSA
        have HP3 := Lib.hid hp3
        have hne : (er != er) = false := by simp
        clear hbad hlo q1 q2 q3 hp1 hp2 hp3 hsame hXl
        refine (HQ0.out w1).mono ?_
        rintro e w2 ⟨A, c, rfl, hv, hb⟩
        have hst := stepA w2 (.cells #[.int .i64 f.kind, .string ⟨f.name.toArray⟩, .int .i64 f.lit, .slice A f.kids.length c] 37)
        have HV := Lib.hid (FmV.after (show FmV w2 w2.heap.size f A c from hv) hst)
        have HX := Lib.hid (Blk.new w2 37 #[.int .i64 f.kind, .string ⟨f.name.toArray⟩, .int .i64 f.lit, .slice A f.kids.length c])
        have HB2 := Lib.hid (step2 HB1.out (step2 hb hst))
        clear hv hb hst HQ0
        dsimp only [fmA]
        go_wp2_with fail
        generalize (w2.alloc (.cells #[.int .i64 f.kind, .string ⟨f.name.toArray⟩, .int .i64 f.lit, .slice A f.kids.length c] 37)) = v2 at HV HX HB2 ⊢
        generalize w2.heap.size = a at HX ⊢
        refine (HL.out _).mono ?_
        rintro e w3 ⟨A2, c2, rfl, hc, hv, hb⟩
        have HTV := Lib.hid hv
        have HV3 := Lib.hid (HV.out.after hb)
        have HX3 := Lib.hid (HX.out.below hb HX.out.lt)
        have HB3 := Lib.hid (step2 HB2.out hb)
        clear hb hv HV HX HB2 HL
        go_wp2_with fail
        go_loopw [14, 15] (fun sv iv wr => ∃ k : Nat, k ≤ T.length ∧ iv = .int .i64 (k : Int) ∧ sv = .string ⟨(joinT (T.take k)).toArray⟩ ∧ wr = w3) (fun _ iv _ => T.length - (intOf iv).toNat)
        case atStart => exact ⟨0, Nat.zero_le _, rfl, rfl, rfl⟩
        case round =>
          obtain ⟨k, hk, rfl, rfl, rfl⟩ := hrel
          by_cases hlt : k < T.length
          · have hlt' : (k : Int) < (T.length : Int) := by omega
            obtain ⟨t, ht⟩ : ∃ t, T[k]? = some t := ⟨_, List.getElem?_eq_getElem hlt⟩
            obtain ⟨b, o, rfl, hb, c0, c1, c2⟩ := tk_cells HTV.out ht
            have htl := HTP.out k t ht
            have HSN : Hid (joinT (T.take (k + 1)) = (joinT (T.take k) ++ [32]) ++ t.text) := Lib.hid (by
              rw [List.take_add_one, ht]
              exact joinT_snoc _ _)
            have hjl := joinT_take T k
            have HJ1 := Lib.hid (str_app (joinT (T.take k)) [32])
            have HJ2 := Lib.hid (str_app (joinT (T.take k) ++ [32]) t.text)
            have hs1 : (⟨(joinT (T.take k)).toArray⟩ : ByteArray).size + 1 ≤ 9223372036854775807 := by
              show (joinT (T.take k)).toArray.size + 1 ≤ _
              rw [List.size_toArray]
              omega
            have hs2 : (⟨(joinT (T.take k)).toArray⟩ : ByteArray).size + 1 + (⟨t.text.toArray⟩ : ByteArray).size ≤ 9223372036854775807 := by
              show (joinT (T.take k)).toArray.size + 1 + t.text.toArray.size ≤ _
              rw [List.size_toArray, List.size_toArray]
              omega
            rw [show (⟨[32].toArray⟩ : ByteArray) = ⟨#[32]⟩ from rfl] at HJ1
            generalize (⟨(joinT (T.take k) ++ [32]).toArray⟩ : ByteArray) = S1 at HJ1 HJ2
            generalize (⟨(joinT (T.take k)).toArray⟩ : ByteArray) = S0 at HJ1 hs1 hs2 ⊢
            generalize (⟨t.text.toArray⟩ : ByteArray) = TX at c1 HJ2 hs2
            clear ht hjl
            go_wp2_with fail
            go_roundw
            case rel => exact ⟨k + 1, by omega, by go_num, by rw [HSN.out, ← HJ2.out, ← HJ1.out], (by first | rfl | trivial)⟩
            case measure => simp [intOf]; omega
          · obtain rfl : k = T.length := by omega
            rw [List.take_length]
            generalize (⟨(joinT T).toArray⟩ : ByteArray) = Y at HY0 ⊢
            go_wp2_with fail
            refine (HY0.out _).mono ?_
            rintro e w5 ⟨D, g, rfl, hv, hb⟩
            have hst := stepA w5 (.cells #[.int .i64 f.kind, .string ⟨f.name.toArray⟩, .int .i64 f.lit, .slice D f.kids.length g] 37)
            have HV5 := Lib.hid (HV3.out.after (step2 hb hst))
            have HU5 := Lib.hid (FmV.after (show FmV w5 w5.heap.size f D g from hv) hst)
            have HX5 := Lib.hid ((HX3.out.below hb HX3.out.lt).alloc (.cells #[.int .i64 f.kind, .string ⟨f.name.toArray⟩, .int .i64 f.lit, .slice D f.kids.length g] 37))
            have HY5 := Lib.hid (Blk.new w5 37 #[.int .i64 f.kind, .string ⟨f.name.toArray⟩, .int .i64 f.lit, .slice D f.kids.length g])
            have HB5 := Lib.hid (step2 HB3.out (step2 hb hst))
            clear hv hb hst HV3 HX3 HB3 HY0
            have x0 := HX5.out.cell 0
            have x1 := HX5.out.cell 1
            have x2 := HX5.out.cell 2
            have x3 := HX5.out.cell 3
            have y0 := HY5.out.cell 0
            have y1 := HY5.out.cell 1
            have y2 := HY5.out.cell 2
            have y3 := HY5.out.cell 3
            dsimp only [fmA]
            go_wp2_with fail
            clear x0 x1 x2 x3 y0 y1 y2 y3
            generalize (w5.alloc (.cells #[.int .i64 f.kind, .string ⟨f.name.toArray⟩, .int .i64 f.lit, .slice D f.kids.length g] 37)) = v5 at HV5 HU5 HX5 HY5 HB5 ⊢
            refine (HSA.out v5 v5.heap.size A D c g HV5.out HU5.out (Nat.le_refl _)).mono ?_
            rintro e w6 ⟨rfl, hb⟩
            have HV6 := Lib.hid (HV5.out.after hb)
            have HX6 := Lib.hid (HX5.out.below hb HX5.out.lt)
            have HB6 := Lib.hid (step2 HB5.out hb)
            clear hb HV5 HU5 HX5 HY5 HB5
            by_cases he : er = 0
            · obtain ⟨hok, htl⟩ := HP3.out he
              subst he
              have hpr : f.print = (f.txt, 0) := by unfold Fm.print; rw [if_pos hok]
              have HPR : Hid (∀ A c W, FmV W W.heap.size f A c → Calls Tryd.prog 27 #[fmA f A c] W (Ret W (.tuple #[.string ⟨f.txt.toArray⟩, .int .i64 0]))) := Lib.hid fun A c W h => by
                have h2 := print_any f A c W h
                rw [hpr] at h2
                exact h2
              have HZ : Hid (∀ W, Calls Tryd.prog 31 #[.string ⟨f.txt.toArray⟩] W (ParsePost W (f, 0, 0))) := Lib.hid fun W => by
                have h := parse_any ⟨f.txt.toArray⟩ (by show f.txt.toArray.size ≤ _; rw [List.size_toArray]; omega) W
                rwa [show (⟨f.txt.toArray⟩ : ByteArray).data.toList = f.txt from rfl, parseOf_txt hok htl] at h
              clear hok htl hpr
              generalize (⟨f.txt.toArray⟩ : ByteArray) = U at HPR HZ
              have x0 := HX6.out.cell 0
              have x1 := HX6.out.cell 1
              have x2 := HX6.out.cell 2
              have x3 := HX6.out.cell 3
              go_wp2_with fail
              clear x0 x1 x2 x3
              refine (HPR.out A c w6 HV6.out).mono ?_
              rintro e w7 ⟨rfl, hb⟩
              have HV7 := Lib.hid (HV6.out.after hb)
              have HX7 := Lib.hid (HX6.out.below hb HX6.out.lt)
              have HB7 := Lib.hid (step2 HB6.out hb)
              clear hb HV6 HX6 HB6
              go_wp2_with fail
              refine (HZ.out w7).mono ?_
              rintro e w8 ⟨E, h, rfl, hv, hb⟩
              have hst := stepA w8 (.cells #[.int .i64 f.kind, .string ⟨f.name.toArray⟩, .int .i64 f.lit, .slice E f.kids.length h] 37)
              have HV8 := Lib.hid (HV7.out.after (step2 hb hst))
              have HU8 := Lib.hid (FmV.after (show FmV w8 w8.heap.size f E h from hv) hst)
              have HX8 := Lib.hid ((HX7.out.below hb HX7.out.lt).alloc (.cells #[.int .i64 f.kind, .string ⟨f.name.toArray⟩, .int .i64 f.lit, .slice E f.kids.length h] 37))
              have HY8 := Lib.hid (Blk.new w8 37 #[.int .i64 f.kind, .string ⟨f.name.toArray⟩, .int .i64 f.lit, .slice E f.kids.length h])
              have HB8 := Lib.hid (step2 HB7.out (step2 hb hst))
              clear hv hb hst HV7 HX7 HB7
              have x0 := HX8.out.cell 0
              have x1 := HX8.out.cell 1
              have x2 := HX8.out.cell 2
              have x3 := HX8.out.cell 3
              have y0 := HY8.out.cell 0
              have y1 := HY8.out.cell 1
              have y2 := HY8.out.cell 2
              have y3 := HY8.out.cell 3
              dsimp only [fmA]
              go_wp2_with fail
              clear x0 x1 x2 x3 y0 y1 y2 y3
              generalize (w8.alloc (.cells #[.int .i64 f.kind, .string ⟨f.name.toArray⟩, .int .i64 f.lit, .slice E f.kids.length h] 37)) = v8 at HV8 HU8 HX8 HY8 HB8 ⊢
              refine (HSA.out v8 v8.heap.size A E c h HV8.out HU8.out (Nat.le_refl _)).mono ?_
              rintro e w9 ⟨rfl, hb⟩
              have HB9 := Lib.hid (step2 HB8.out hb)
              clear hb
              go_wp2_with fail
              go_ret
              exact ⟨rfl, HB9.out⟩
            · have hee : (er != 0) = true := by simp [he]
              have hee2 : (er == 0) = false := by simp [he]
              clear he
              go_wp2_with fail
              go_ret
              exact ⟨rfl, HB6.out⟩
end Go.Proofs.YtijecfmblddanaaDoor
