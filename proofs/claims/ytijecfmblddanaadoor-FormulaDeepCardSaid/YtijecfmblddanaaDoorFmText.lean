/- Formulas: a formula's text. -/
import Derived.Test.YtijecfmblddanaaDoorFmBuild
import Derived.Test.YtijecfmblddanaaDoorFmAtom
import Derived.Test.YtijecfmblddanaaDoorFmRight
set_option linter.unusedVariables false
set_option linter.unusedSimpArgs false
namespace Go.Proofs.YtijecfmblddanaaDoor
open Go.RowKit Go.Maps

section
variable {w w' w'' : World} {B b x : Nat} {l l' : List UInt8}
theorem IsB.lt (h : IsB B b l w) : b < w.heap.size := h.elim (fun h => h.lt) (fun h => h.lt)
theorem atF_after {T e : TypeId} {p : Value} {bs : List Value} (h : Lib.BuilderAtF T e B b p bs w) (hb : Below w.heap.size w w') : Lib.BuilderAtF T e B b p bs w' := by
  have hlt := h.lt
  obtain ⟨hB, v, h1, h2, h3⟩ := h
  exact ⟨hB, v, (hb.block b hlt).trans h1, h2.kept (below_grown hb none) (by cases v.ownBlock <;> simp), h3⟩
theorem IsB.after (h : IsB B b l w) (hb : Below w.heap.size w w') : IsB B b l w' := h.elim (fun h => .inl (atF_after h hb)) (fun h => .inr (atF_after h hb))
theorem oth_after (hb : Below w.heap.size w w') : Oth b w w' := fun k o h _ _ => (hb.block k (Array.getElem?_eq_some_iff.1 h).1).trans h
theorem Blk.oth {T : TypeId} {cs : Array Value} (h : Blk w x T cs) (hT : T ≠ 5) (hx : x ≠ b) (ho : Oth b w w') : Blk w' x T cs :=
  ho x _ h (fun e => hx (Option.some.inj e)) (fun c fz e => by cases e; exact hT rfl)
theorem IMap.oth {k : TypeId} {n : Nat} {f : Int → Option Value} (h : IMap Tryd.prog k w x n f) (hx : x ≠ b) (ho : Oth b w w') : IMap Tryd.prog k w' x n f := by
  refine h.same ?_
  obtain ⟨D, ⟨es, clock, h1, _⟩, _⟩ := h
  rw [h1]
  exact ho x _ h1 (fun e => hx (Option.some.inj e)) (fun c fz e => by cases e)

theorem IMap.al {k : TypeId} {n : Nat} {f : Int → Option Value} (h : IMap Tryd.prog k w x n f) (o : Obj) : IMap Tryd.prog k (w.alloc o) x n f := GMap.alloc h o

/-- What a writing into the builder leaves. -/
structure Wr (B b : Nat) (l : List UInt8) (w w' : World) : Prop where
  isB : IsB B b l w'
  low : Below B w w'
  oth : Oth b w w'
theorem Wr.of (h : IsB B b l w) : Wr B b l w w := ⟨h, Below.refl _ _, Lib.OthersKept.refl _ _ _⟩
theorem Wr.step (h : Wr B b l w w') (h' : Wr B b l' w' w'') : Wr B b l' w w'' := ⟨h'.isB, h.low.trans h'.low, h.oth.trans h'.oth⟩
theorem Wr.after (h : Wr B b l w w') (hB : B ≤ w.heap.size) (hb : Below w'.heap.size w' w'') : Wr B b l w w'' :=
  ⟨h.isB.after hb, h.low.trans (hb.mono (Nat.le_trans hB h.low.size)), h.oth.trans (oth_after hb)⟩
end

theorem wr_str (B b : Nat) (l t : List UInt8) (w : World) (h : IsB B b l w) (hlen : l.length + t.length ≤ 140737488355328) (hBw : B ≤ w.heap.size) :
    Calls Tryd.prog 59 #[.pointer (some ⟨b, 0, none⟩), .string ⟨t.toArray⟩] w fun e w' => e = .returned (.tuple #[.int .i64 (t.length : Int), .nilIface]) ∧ Wr B b (l ++ t) w w' := by
  refine Calls.mono (writeString_any B b l ⟨t.toArray⟩ w h (by show l.length + t.toArray.size ≤ _; rw [List.size_toArray]; exact hlen) hBw) ?_
  rintro e w' ⟨rfl, h1, h2, h3⟩
  refine ⟨?_, h1, h2, h3⟩
  show Ending.returned (.tuple #[.int .i64 (t.toArray.size : Int), .nilIface]) = _
  rw [List.size_toArray]
theorem wr_open (B b : Nat) (l : List UInt8) (w : World) (h : IsB B b l w) (hlen : l.length + 1 ≤ 140737488355328) (hBw : B ≤ w.heap.size) :
    Calls Tryd.prog 61 #[.pointer (some ⟨b, 0, none⟩), .int .u8 40] w fun e w' => e = .returned .nilIface ∧ Wr B b (l ++ [40]) w w' :=
  Calls.mono (writeByte_any B b l 40 w h hlen hBw) fun e w' h => ⟨h.1, h.2.1, h.2.2.1, h.2.2.2⟩
theorem wr_close (B b : Nat) (l : List UInt8) (w : World) (h : IsB B b l w) (hlen : l.length + 1 ≤ 140737488355328) (hBw : B ≤ w.heap.size) :
    Calls Tryd.prog 61 #[.pointer (some ⟨b, 0, none⟩), .int .u8 41] w fun e w' => e = .returned .nilIface ∧ Wr B b (l ++ [41]) w w' :=
  Calls.mono (writeByte_any B b l 41 w h hlen hBw) fun e w' h => ⟨h.1, h.2.1, h.2.2.1, h.2.2.2⟩

theorem joinB_more (b : List UInt8) (x y : List (List UInt8)) : ∃ r, joinB b (x ++ y) = joinB b x ++ r := by
  cases x with
  | nil => exact ⟨_, rfl⟩
  | cons a x => exact ⟨y.flatMap fun y => b ++ y, by simp [joinB, List.flatMap_append]⟩
theorem joinB_take_le (b : List UInt8) (l : List (List UInt8)) (k : Nat) : (joinB b (l.take k)).length ≤ (joinB b l).length := by
  obtain ⟨r, hr⟩ := joinB_more b (l.take k) (l.drop k)
  rw [List.take_append_drop] at hr
  rw [hr, List.length_append]
  omega

/-- What a right formula's kind and parts are. -/
theorem wf_parts {f : Fm} {d : Int} (h : f.wf d = true) : (1 ≤ f.kind ∧ f.kind ≤ 18) ∧ (f.kids.length : Int) = nk f.kind ∧ (f.kind = 3 → wordB f.name = true) ∧ ∀ k, k ∈ f.kids → k.wf (d - 1) = true := by
  rw [f.wf_eq] at h
  simp only [Bool.and_eq_true, decide_eq_true_eq] at h
  obtain ⟨⟨⟨⟨h1, h2⟩, h3⟩, h4⟩, h5⟩ := h
  refine ⟨?_, h2.symm, fun e => by rw [if_pos e] at h4; exact h4, fun k hk => ?_⟩
  · have hn : 0 ≤ nk f.kind := by rw [h2]; omega
    unfold nk at hn
    by_cases hc : f.kind < 1 ∨ 18 < f.kind
    · rw [if_pos hc] at hn
      omega
    · omega
  · rw [wfL_all, List.all_eq_true] at h5
    exact h5 k hk
theorem word_ascii {l : List UInt8} (h : wordB l = true) : ∀ b ∈ l, b.toNat < 128 := by
  intro b hb
  rw [wordB_eq, Bool.and_eq_true, Bool.and_eq_true, List.all_eq_true] at h
  have := h.1.1 b hb
  unfold wByte at this
  simp only [Bool.and_eq_true, decide_eq_true_eq] at this
  omega

/-- What text leaves. -/
def TextPost (B b : Nat) (l : List UInt8) (w : World) (e : Ending) (w' : World) : Prop := e = .returned (.tuple #[]) ∧ Wr B b l w w'

set_option maxRecDepth 100000 in
set_option maxHeartbeats 4000000 in
theorem text_any : ∀ (n : Nat) (f : Fm), f.sz < n → ∀ (d : Int), f.wf d = true → ∀ (w : World) (mb B b : Nat) (l : List UInt8) (A : Option Addr) (c : Nat), IMap Tryd.prog 3 w mb 17 shapeF → mb ≠ b → IsB B b l w → B ≤ w.heap.size → FmV w B f A c → l.length + f.txt.length ≤ 140737488355328 →
    Calls Tryd.prog 43 #[.pointer (some ⟨b, 0, none⟩), .map (some mb), fmA f A c] w (TextPost B b (l ++ f.txt) w)
  | 0, f, h => by omega
  | n + 1, f, hn => by
    intro d hwf w mb B b l A c hm hmb hB hBw hf hlen
    obtain ⟨⟨hk1, hk2⟩, hkn, hkw, hkk⟩ := wf_parts hwf
    have HIH := Lib.hid (text_any n)
    have hblt := hB.lt
    have hb1 := stepA w (.cells #[.int .i64 f.kind, .string ⟨f.name.toArray⟩, .int .i64 f.lit, .slice A f.kids.length c] 37)
    have HT := Lib.hid (Blk.new w 37 #[.int .i64 f.kind, .string ⟨f.name.toArray⟩, .int .i64 f.lit, .slice A f.kids.length c])
    have HW1 := Lib.hid ((Wr.of hB).after hBw hb1)
    have HM1 := Lib.hid (hm.al (.cells #[.int .i64 f.kind, .string ⟨f.name.toArray⟩, .int .i64 f.lit, .slice A f.kids.length c] 37))
    have HF1 := Lib.hid (hf.low (hb1.mono hBw))
    have HB1 := Lib.hid hb1
    have hf0 := hf
    clear hb1 hm hf hB
    unfold fmA at *
    by_cases hK : f.kind = 3
    · have hK' : (f.kind == 3) = true := by simp [hK]
      have HTX : Hid (f.txt = atomT f.name) := Lib.hid (by rw [f.txt_eq, if_pos hK])
      have hwd := hkw hK
      have HWA := Lib.hid (fun w => atom_any ⟨f.name.toArray⟩ (word_ascii hwd) (by show f.name.toArray.size ≤ _; rw [List.size_toArray]; have := HF1.out.name; omega) w)
      have e0 := HT.out.cell 0
      have e1 := HT.out.cell 1
      rw [HTX.out] at hlen
      clear hK hwd hkw hkk hkn
      go_enter Tryd.func43, Tryd.ntmps43
      go_wp2_with fail
      refine (HWA.out _).mono ?_
      rintro e w2 ⟨t, rfl, ht, hb2⟩
      obtain ⟨tl⟩ := t
      obtain ⟨tl⟩ := tl
      have ht2 : tl = atomT f.name := ht
      have HW2 := Lib.hid (HW1.out.after hBw hb2)
      have HTL := Lib.hid ht2
      have hsz2 := HW2.out.low.size
      clear ht ht2 hb2
      go_wp2_with fail
      refine (wr_str B b l tl w2 HW2.out.isB (by rw [HTL.out]; exact hlen) (by omega)).mono ?_
      rintro e w3 ⟨rfl, h3⟩
      have HW3 := Lib.hid (HW2.out.step h3)
      clear h3
      go_wp2_with fail
      (try simp only [Exit.inBlock, Exit.then])
      refine bodyPost_ret (results_none rfl _ _ _) rfl ?_
      rw [HTX.out, ← HTL.out]
      exact ⟨rfl, HW3.out⟩
    · have hK' : (f.kind == 3) = false := by simpa using hK
      have hsh : shapeF f.kind = some (shapeV f.kind) := by unfold shapeF; rw [if_pos ⟨⟨hk1, hk2⟩, hK⟩]
      have hlk := HM1.out.look Tryd.underlying3 Tryd.underlying65 (zeroShape _) (i := f.kind) (by omega) (by omega)
      rw [hsh] at hlk
      unfold shapeV at hlk
      simp only [Option.getD_some] at hlk
      have HTX : Hid (f.txt = (shp f.kind).1 ++ (joinB (shp f.kind).2.1 (f.kids.map Fm.part) ++ (shp f.kind).2.2)) := Lib.hid (by rw [f.txt_eq, if_neg hK])
      have hlen2 := hlen
      rw [HTX.out, List.length_append, List.length_append] at hlen2
      have HLEN := Lib.hid hlen2
      have HKK := Lib.hid hkk
      have e0 := HT.out.cell 0
      have e3 := HT.out.cell 3
      have hkb : f.kids.length ≤ 140737488355328 := by have := HF1.out.cap; have := HF1.out.big; omega
      have hb2 := stepA (w.alloc (.cells #[.int .i64 f.kind, .string ⟨f.name.toArray⟩, .int .i64 f.lit, .slice A f.kids.length c] 37)) (.cells #[.int .i64 (nk f.kind), .string ⟨(shp f.kind).1.toArray⟩, .string ⟨(shp f.kind).2.1.toArray⟩, .string ⟨(shp f.kind).2.2.toArray⟩] 93)
      have hS := Blk.new (w.alloc (.cells #[.int .i64 f.kind, .string ⟨f.name.toArray⟩, .int .i64 f.lit, .slice A f.kids.length c] 37)) 93 #[.int .i64 (nk f.kind), .string ⟨(shp f.kind).1.toArray⟩, .string ⟨(shp f.kind).2.1.toArray⟩, .string ⟨(shp f.kind).2.2.toArray⟩]
      have hT2 := HT.out.alloc (.cells #[.int .i64 (nk f.kind), .string ⟨(shp f.kind).1.toArray⟩, .string ⟨(shp f.kind).2.1.toArray⟩, .string ⟨(shp f.kind).2.2.toArray⟩] 93)
      have hM2 := HM1.out.al (.cells #[.int .i64 (nk f.kind), .string ⟨(shp f.kind).1.toArray⟩, .string ⟨(shp f.kind).2.1.toArray⟩, .string ⟨(shp f.kind).2.2.toArray⟩] 93)
      have hW2 := HW1.out.after hBw hb2
      simp only [World.size_alloc] at hS
      have s1 := hS.cell 1
      have HS2 := Lib.hid hS
      have HT2 := Lib.hid hT2
      have HM2 := Lib.hid hM2
      have HW2 := Lib.hid hW2
      have HF0 := Lib.hid hf0
      clear hS hT2 hM2 hW2 hb2 hkk hkw hwf hlen hlen2 hsh hf0
      go_enter Tryd.func43, Tryd.ntmps43
      go_wp2_with fail
      refine (wr_str B b l (shp f.kind).1 _ HW2.out.isB (by have := HLEN.out; omega) (by have := HW2.out.low.size; omega)).mono ?_
      rintro e w3 ⟨rfl, h3⟩
      have hT3 := HT2.out.oth (by decide) (by omega) h3.oth
      have HS3 := Lib.hid (HS2.out.oth (by decide) (by omega) h3.oth)
      have HM3 := Lib.hid (IMap.oth HM2.out hmb h3.oth)
      have HW3 := Lib.hid (HW2.out.step h3)
      have t3 := hT3.cell 3
      clear h3 hT3
      go_wp2_with fail
      go_loopw [28] (fun iv wr => ∃ i : Nat, i ≤ f.kids.length ∧ iv = .int .i64 (i : Int) ∧ Wr B b (l ++ ((shp f.kind).1 ++ joinB (shp f.kind).2.1 ((f.kids.map Fm.part).take i))) w wr ∧ Blk wr (w.heap.size + 1) 93 #[.int .i64 (nk f.kind), .string ⟨(shp f.kind).1.toArray⟩, .string ⟨(shp f.kind).2.1.toArray⟩, .string ⟨(shp f.kind).2.2.toArray⟩] ∧ IMap Tryd.prog 3 wr mb 17 shapeF) (fun iv _ => f.kids.length - (intOf iv).toNat)
      case atStart => exact ⟨0, Nat.zero_le _, rfl, (by have := HW3.out; simpa [joinB] using this), HS3.out, HM3.out⟩
      case round =>
        obtain ⟨i, hi, rfl, hwr, hsr, hmr⟩ := hrel
        have hszr := hwr.low.size
        have HWR := Lib.hid hwr
        have HSR := Lib.hid hsr
        have HMR := Lib.hid hmr
        clear hwr hsr hmr
        by_cases hlt : i < f.kids.length
        · have hlt' : (i : Int) < (f.kids.length : Int) := by omega
          obtain ⟨k, hk⟩ : ∃ k, f.kids[i]? = some k := ⟨_, List.getElem?_eq_getElem hlt⟩
          have hksz : k.sz < n := by
            have := Fm.kid_sz (List.mem_of_getElem? hk)
            omega
          have hkwf := HKK.out k (List.mem_of_getElem? hk)
          have hps : (f.kids.map Fm.part)[i]? = some k.part := by rw [List.getElem?_map, hk]; rfl
          have hnil : ((f.kids.map Fm.part).take i = []) = (i = 0) := by
            rw [List.take_eq_nil_iff, eq_iff_iff]
            constructor
            · rintro (h | h)
              · exact h
              · rw [List.map_eq_nil_iff] at h
                rw [h] at hlt
                simp at hlt
            · exact .inl
          have hj : joinB (shp f.kind).2.1 ((f.kids.map Fm.part).take (i + 1)) = joinB (shp f.kind).2.1 ((f.kids.map Fm.part).take i) ++ ((if i = 0 then [] else (shp f.kind).2.1) ++ k.part) := by
            rw [List.take_add_one, hps]
            show joinB _ (_ ++ [k.part]) = _
            rw [joinB_snoc]
            simp only [hnil]
          have hjl := joinB_take_le (shp f.kind).2.1 (f.kids.map Fm.part) (i + 1)
          rw [hj, List.length_append, List.length_append] at hjl
          have HJL := Lib.hid hjl
          have HJ := Lib.hid hj
          obtain ⟨q, oo, A', c', rfl, hq, ⟨q0, q1, q2, q3⟩, hv⟩ := (HF0.out.kids.low HWR.out.low).v hk
          have hst := stepA wr (.cells #[.int .i64 k.kind, .string ⟨k.name.toArray⟩, .int .i64 k.lit, .slice A' k.kids.length c'] 37)
          have HW4 := Lib.hid (HWR.out.after hBw hst)
          have HK4 := Lib.hid (Blk.new wr 37 #[.int .i64 k.kind, .string ⟨k.name.toArray⟩, .int .i64 k.lit, .slice A' k.kids.length c'])
          have HS4 := Lib.hid (HSR.out.alloc (.cells #[.int .i64 k.kind, .string ⟨k.name.toArray⟩, .int .i64 k.lit, .slice A' k.kids.length c'] 37))
          have HM4 : Hid (IMap Tryd.prog 3 (wr.alloc (.cells #[.int .i64 k.kind, .string ⟨k.name.toArray⟩, .int .i64 k.lit, .slice A' k.kids.length c'] 37)) mb 17 shapeF) := Lib.hid (IMap.al HMR.out (.cells #[.int .i64 k.kind, .string ⟨k.name.toArray⟩, .int .i64 k.lit, .slice A' k.kids.length c'] 37))
          have HV4 := Lib.hid (hv.low (hst.mono (by omega)))
          have k0 := HK4.out.cell 0
          have s2 := HS4.out.cell 2
          clear hj hjl hps hnil hst hv
          by_cases h0 : i = 0
          · rcases (show k.kind < 5 ∨ (5 ≤ k.kind ∧ k.kind ≤ 8) ∨ 8 < k.kind by omega) with hkl | ⟨hkm1, hkm2⟩ | hkh
            · skip
              -- the first, low
              have HPT : Hid (l ++ ((shp f.kind).1 ++ joinB (shp f.kind).2.1 ((f.kids.map Fm.part).take (i + 1))) = (l ++ ((shp f.kind).1 ++ joinB (shp f.kind).2.1 ((f.kids.map Fm.part).take i))) ++ k.part) := Lib.hid (by rw [HJ.out, if_pos h0]; simp [List.append_assoc])
              have HPK : Hid (k.part = k.txt) := Lib.hid (by unfold Fm.part parT; rw [if_neg (by omega)])
              have hjl2 := HJL.out
              rw [if_pos h0, HPK.out] at hjl2
              have hlen4 := HLEN.out
              simp only [List.length_nil] at hjl2
              have hxl : (l ++ ((shp f.kind).1 ++ joinB (shp f.kind).2.1 ((f.kids.map Fm.part).take i))).length = l.length + ((shp f.kind).1.length + (joinB (shp f.kind).2.1 ((f.kids.map Fm.part).take i)).length) := by rw [List.length_append, List.length_append]
              have HXL := Lib.hid (And.intro hjl2 (And.intro hlen4 hxl))
              have h01 : i < 1 := by omega
              clear hjl2 hlen4 hxl h0
              go_wp2_with fail
              refine (HIH.out k hksz (d - 1) hkwf _ mb B b (l ++ ((shp f.kind).1 ++ joinB (shp f.kind).2.1 ((f.kids.map Fm.part).take i))) A' c' HM4.out hmb HW4.out.isB (by have := HW4.out.low.size; omega) HV4.out (by obtain ⟨u1, u2, u3⟩ := HXL.out; (try simp only [List.length_append, List.length_cons, List.length_nil] at *); omega)).mono ?_
              rintro e w5 ⟨rfl, h5⟩
              have HK5 := Lib.hid (HK4.out.oth (by decide) (by omega) h5.oth)
              have HS5 := Lib.hid (HS4.out.oth (by decide) (by omega) h5.oth)
              have HM5 := Lib.hid (IMap.oth HM4.out hmb h5.oth)
              have HV5 := Lib.hid (HV4.out.low h5.low)
              have HW5 := Lib.hid (HW4.out.step h5)
              clear h5
              go_wp2_with fail
              go_roundw
              case rel =>
                refine ⟨i + 1, by omega, by go_num, ?_, HS5.out, HM5.out⟩
                have hw := HW5.out
                rw [HPT.out, HPK.out]
                simpa [List.append_assoc] using hw
              case measure => simp [intOf]; omega
            · skip
              -- the first, mid
              have HPT : Hid (l ++ ((shp f.kind).1 ++ joinB (shp f.kind).2.1 ((f.kids.map Fm.part).take (i + 1))) = (l ++ ((shp f.kind).1 ++ joinB (shp f.kind).2.1 ((f.kids.map Fm.part).take i))) ++ k.part) := Lib.hid (by rw [HJ.out, if_pos h0]; simp [List.append_assoc])
              have HPK : Hid (k.part = 40 :: (k.txt ++ [41])) := Lib.hid (by unfold Fm.part parT; rw [if_pos (by omega)])
              have hjl2 := HJL.out
              rw [if_pos h0, HPK.out] at hjl2
              have hlen4 := HLEN.out
              simp only [List.length_cons, List.length_append, List.length_nil] at hjl2
              have hxl : (l ++ ((shp f.kind).1 ++ joinB (shp f.kind).2.1 ((f.kids.map Fm.part).take i))).length = l.length + ((shp f.kind).1.length + (joinB (shp f.kind).2.1 ((f.kids.map Fm.part).take i)).length) := by rw [List.length_append, List.length_append]
              have HXL := Lib.hid (And.intro hjl2 (And.intro hlen4 hxl))
              have h01 : i < 1 := by omega
              clear hjl2 hlen4 hxl h0
              go_wp2_with fail
              refine (wr_open B b (l ++ ((shp f.kind).1 ++ joinB (shp f.kind).2.1 ((f.kids.map Fm.part).take i))) _ HW4.out.isB (by obtain ⟨u1, u2, u3⟩ := HXL.out; (try simp only [List.length_append, List.length_cons, List.length_nil] at *); omega) (by have := HW4.out.low.size; omega)).mono ?_
              rintro e w5 ⟨rfl, h5⟩
              have HK5 := Lib.hid (HK4.out.oth (by decide) (by omega) h5.oth)
              have HS5 := Lib.hid (HS4.out.oth (by decide) (by omega) h5.oth)
              have HM5 := Lib.hid (IMap.oth HM4.out hmb h5.oth)
              have HV5 := Lib.hid (HV4.out.low h5.low)
              have HW5 := Lib.hid (HW4.out.step h5)
              have r0 := HK5.out.cell 0
              have r1 := HK5.out.cell 1
              have r2 := HK5.out.cell 2
              have r3 := HK5.out.cell 3
              clear h5
              go_wp2_with fail
              refine (HIH.out k hksz (d - 1) hkwf _ mb B b ((l ++ ((shp f.kind).1 ++ joinB (shp f.kind).2.1 ((f.kids.map Fm.part).take i))) ++ [40]) A' c' HM5.out hmb HW5.out.isB (by have := HW5.out.low.size; omega) HV5.out (by obtain ⟨u1, u2, u3⟩ := HXL.out; (try simp only [List.length_append, List.length_cons, List.length_nil] at *); omega)).mono ?_
              rintro e w6 ⟨rfl, h6⟩
              have HK6 := Lib.hid (HK5.out.oth (by decide) (by omega) h6.oth)
              have HS6 := Lib.hid (HS5.out.oth (by decide) (by omega) h6.oth)
              have HM6 := Lib.hid (IMap.oth HM5.out hmb h6.oth)
              have HV6 := Lib.hid (HV5.out.low h6.low)
              have HW6 := Lib.hid (HW5.out.step h6)
              clear h6
              go_wp2_with fail
              refine (wr_close B b (((l ++ ((shp f.kind).1 ++ joinB (shp f.kind).2.1 ((f.kids.map Fm.part).take i))) ++ [40]) ++ k.txt) _ HW6.out.isB (by obtain ⟨u1, u2, u3⟩ := HXL.out; (try simp only [List.length_append, List.length_cons, List.length_nil] at *); omega) (by have := HW6.out.low.size; omega)).mono ?_
              rintro e w7 ⟨rfl, h7⟩
              have HK7 := Lib.hid (HK6.out.oth (by decide) (by omega) h7.oth)
              have HS7 := Lib.hid (HS6.out.oth (by decide) (by omega) h7.oth)
              have HM7 := Lib.hid (IMap.oth HM6.out hmb h7.oth)
              have HV7 := Lib.hid (HV6.out.low h7.low)
              have HW7 := Lib.hid (HW6.out.step h7)
              clear h7
              go_wp2_with fail
              go_roundw
              case rel =>
                refine ⟨i + 1, by omega, by go_num, ?_, HS7.out, HM7.out⟩
                have hw := HW7.out
                rw [HPT.out, HPK.out]
                simpa [List.append_assoc] using hw
              case measure => simp [intOf]; omega
            · skip
              -- the first, high
              have HPT : Hid (l ++ ((shp f.kind).1 ++ joinB (shp f.kind).2.1 ((f.kids.map Fm.part).take (i + 1))) = (l ++ ((shp f.kind).1 ++ joinB (shp f.kind).2.1 ((f.kids.map Fm.part).take i))) ++ k.part) := Lib.hid (by rw [HJ.out, if_pos h0]; simp [List.append_assoc])
              have HPK : Hid (k.part = k.txt) := Lib.hid (by unfold Fm.part parT; rw [if_neg (by omega)])
              have hjl2 := HJL.out
              rw [if_pos h0, HPK.out] at hjl2
              have hlen4 := HLEN.out
              simp only [List.length_nil] at hjl2
              have hxl : (l ++ ((shp f.kind).1 ++ joinB (shp f.kind).2.1 ((f.kids.map Fm.part).take i))).length = l.length + ((shp f.kind).1.length + (joinB (shp f.kind).2.1 ((f.kids.map Fm.part).take i)).length) := by rw [List.length_append, List.length_append]
              have HXL := Lib.hid (And.intro hjl2 (And.intro hlen4 hxl))
              have h01 : i < 1 := by omega
              clear hjl2 hlen4 hxl h0
              go_wp2_with fail
              refine (HIH.out k hksz (d - 1) hkwf _ mb B b (l ++ ((shp f.kind).1 ++ joinB (shp f.kind).2.1 ((f.kids.map Fm.part).take i))) A' c' HM4.out hmb HW4.out.isB (by have := HW4.out.low.size; omega) HV4.out (by obtain ⟨u1, u2, u3⟩ := HXL.out; (try simp only [List.length_append, List.length_cons, List.length_nil] at *); omega)).mono ?_
              rintro e w5 ⟨rfl, h5⟩
              have HK5 := Lib.hid (HK4.out.oth (by decide) (by omega) h5.oth)
              have HS5 := Lib.hid (HS4.out.oth (by decide) (by omega) h5.oth)
              have HM5 := Lib.hid (IMap.oth HM4.out hmb h5.oth)
              have HV5 := Lib.hid (HV4.out.low h5.low)
              have HW5 := Lib.hid (HW4.out.step h5)
              clear h5
              go_wp2_with fail
              go_roundw
              case rel =>
                refine ⟨i + 1, by omega, by go_num, ?_, HS5.out, HM5.out⟩
                have hw := HW5.out
                rw [HPT.out, HPK.out]
                simpa [List.append_assoc] using hw
              case measure => simp [intOf]; omega
          · rcases (show k.kind < 5 ∨ (5 ≤ k.kind ∧ k.kind ≤ 8) ∨ 8 < k.kind by omega) with hkl | ⟨hkm1, hkm2⟩ | hkh
            · skip
              -- not the first, low
              have HPT : Hid (l ++ ((shp f.kind).1 ++ joinB (shp f.kind).2.1 ((f.kids.map Fm.part).take (i + 1))) = ((l ++ ((shp f.kind).1 ++ joinB (shp f.kind).2.1 ((f.kids.map Fm.part).take i))) ++ (shp f.kind).2.1) ++ k.part) := Lib.hid (by rw [HJ.out, if_neg h0]; simp [List.append_assoc])
              have HPK : Hid (k.part = k.txt) := Lib.hid (by unfold Fm.part parT; rw [if_neg (by omega)])
              have hjl2 := HJL.out
              rw [if_neg h0, HPK.out] at hjl2
              have hlen4 := HLEN.out
              have hxl : (l ++ ((shp f.kind).1 ++ joinB (shp f.kind).2.1 ((f.kids.map Fm.part).take i))).length = l.length + ((shp f.kind).1.length + (joinB (shp f.kind).2.1 ((f.kids.map Fm.part).take i)).length) := by rw [List.length_append, List.length_append]
              have HXL := Lib.hid (And.intro hjl2 (And.intro hlen4 hxl))
              have hip : 0 < (i : Int) := by omega
              clear hjl2 hlen4 hxl h0
              go_wp2_with fail
              refine (wr_str B b (l ++ ((shp f.kind).1 ++ joinB (shp f.kind).2.1 ((f.kids.map Fm.part).take i))) (shp f.kind).2.1 _ HW4.out.isB (by obtain ⟨u1, u2, u3⟩ := HXL.out; (try simp only [List.length_append, List.length_cons, List.length_nil] at *); omega) (by have := HW4.out.low.size; omega)).mono ?_
              rintro e w5 ⟨rfl, h5⟩
              have HK5 := Lib.hid (HK4.out.oth (by decide) (by omega) h5.oth)
              have HS5 := Lib.hid (HS4.out.oth (by decide) (by omega) h5.oth)
              have HM5 := Lib.hid (IMap.oth HM4.out hmb h5.oth)
              have HV5 := Lib.hid (HV4.out.low h5.low)
              have HW5 := Lib.hid (HW4.out.step h5)
              have k5 := HK5.out.cell 0
              have k51 := HK5.out.cell 1
              have k52 := HK5.out.cell 2
              have k53 := HK5.out.cell 3
              clear h5
              go_wp2_with fail
              refine (HIH.out k hksz (d - 1) hkwf _ mb B b ((l ++ ((shp f.kind).1 ++ joinB (shp f.kind).2.1 ((f.kids.map Fm.part).take i))) ++ (shp f.kind).2.1) A' c' HM5.out hmb HW5.out.isB (by have := HW5.out.low.size; omega) HV5.out (by obtain ⟨u1, u2, u3⟩ := HXL.out; (try simp only [List.length_append, List.length_cons, List.length_nil] at *); omega)).mono ?_
              rintro e w6 ⟨rfl, h6⟩
              have HK6 := Lib.hid (HK5.out.oth (by decide) (by omega) h6.oth)
              have HS6 := Lib.hid (HS5.out.oth (by decide) (by omega) h6.oth)
              have HM6 := Lib.hid (IMap.oth HM5.out hmb h6.oth)
              have HV6 := Lib.hid (HV5.out.low h6.low)
              have HW6 := Lib.hid (HW5.out.step h6)
              clear h6
              go_wp2_with fail
              go_roundw
              case rel =>
                refine ⟨i + 1, by omega, by go_num, ?_, HS6.out, HM6.out⟩
                have hw := HW6.out
                rw [HPT.out, HPK.out]
                simpa [List.append_assoc] using hw
              case measure => simp [intOf]; omega
            · skip
              -- not the first, mid
              have HPT : Hid (l ++ ((shp f.kind).1 ++ joinB (shp f.kind).2.1 ((f.kids.map Fm.part).take (i + 1))) = ((l ++ ((shp f.kind).1 ++ joinB (shp f.kind).2.1 ((f.kids.map Fm.part).take i))) ++ (shp f.kind).2.1) ++ k.part) := Lib.hid (by rw [HJ.out, if_neg h0]; simp [List.append_assoc])
              have HPK : Hid (k.part = 40 :: (k.txt ++ [41])) := Lib.hid (by unfold Fm.part parT; rw [if_pos (by omega)])
              have hjl2 := HJL.out
              rw [if_neg h0, HPK.out] at hjl2
              have hlen4 := HLEN.out
              simp only [List.length_cons, List.length_append, List.length_nil] at hjl2
              have hxl : (l ++ ((shp f.kind).1 ++ joinB (shp f.kind).2.1 ((f.kids.map Fm.part).take i))).length = l.length + ((shp f.kind).1.length + (joinB (shp f.kind).2.1 ((f.kids.map Fm.part).take i)).length) := by rw [List.length_append, List.length_append]
              have HXL := Lib.hid (And.intro hjl2 (And.intro hlen4 hxl))
              have hip : 0 < (i : Int) := by omega
              clear hjl2 hlen4 hxl h0
              go_wp2_with fail
              refine (wr_str B b (l ++ ((shp f.kind).1 ++ joinB (shp f.kind).2.1 ((f.kids.map Fm.part).take i))) (shp f.kind).2.1 _ HW4.out.isB (by obtain ⟨u1, u2, u3⟩ := HXL.out; (try simp only [List.length_append, List.length_cons, List.length_nil] at *); omega) (by have := HW4.out.low.size; omega)).mono ?_
              rintro e w5 ⟨rfl, h5⟩
              have HK5 := Lib.hid (HK4.out.oth (by decide) (by omega) h5.oth)
              have HS5 := Lib.hid (HS4.out.oth (by decide) (by omega) h5.oth)
              have HM5 := Lib.hid (IMap.oth HM4.out hmb h5.oth)
              have HV5 := Lib.hid (HV4.out.low h5.low)
              have HW5 := Lib.hid (HW4.out.step h5)
              have k5 := HK5.out.cell 0
              have k51 := HK5.out.cell 1
              have k52 := HK5.out.cell 2
              have k53 := HK5.out.cell 3
              clear h5
              go_wp2_with fail
              refine (wr_open B b ((l ++ ((shp f.kind).1 ++ joinB (shp f.kind).2.1 ((f.kids.map Fm.part).take i))) ++ (shp f.kind).2.1) _ HW5.out.isB (by obtain ⟨u1, u2, u3⟩ := HXL.out; (try simp only [List.length_append, List.length_cons, List.length_nil] at *); omega) (by have := HW5.out.low.size; omega)).mono ?_
              rintro e w6 ⟨rfl, h6⟩
              have HK6 := Lib.hid (HK5.out.oth (by decide) (by omega) h6.oth)
              have HS6 := Lib.hid (HS5.out.oth (by decide) (by omega) h6.oth)
              have HM6 := Lib.hid (IMap.oth HM5.out hmb h6.oth)
              have HV6 := Lib.hid (HV5.out.low h6.low)
              have HW6 := Lib.hid (HW5.out.step h6)
              have r0 := HK6.out.cell 0
              have r1 := HK6.out.cell 1
              have r2 := HK6.out.cell 2
              have r3 := HK6.out.cell 3
              clear h6
              go_wp2_with fail
              refine (HIH.out k hksz (d - 1) hkwf _ mb B b (((l ++ ((shp f.kind).1 ++ joinB (shp f.kind).2.1 ((f.kids.map Fm.part).take i))) ++ (shp f.kind).2.1) ++ [40]) A' c' HM6.out hmb HW6.out.isB (by have := HW6.out.low.size; omega) HV6.out (by obtain ⟨u1, u2, u3⟩ := HXL.out; (try simp only [List.length_append, List.length_cons, List.length_nil] at *); omega)).mono ?_
              rintro e w7 ⟨rfl, h7⟩
              have HK7 := Lib.hid (HK6.out.oth (by decide) (by omega) h7.oth)
              have HS7 := Lib.hid (HS6.out.oth (by decide) (by omega) h7.oth)
              have HM7 := Lib.hid (IMap.oth HM6.out hmb h7.oth)
              have HV7 := Lib.hid (HV6.out.low h7.low)
              have HW7 := Lib.hid (HW6.out.step h7)
              clear h7
              go_wp2_with fail
              refine (wr_close B b ((((l ++ ((shp f.kind).1 ++ joinB (shp f.kind).2.1 ((f.kids.map Fm.part).take i))) ++ (shp f.kind).2.1) ++ [40]) ++ k.txt) _ HW7.out.isB (by obtain ⟨u1, u2, u3⟩ := HXL.out; (try simp only [List.length_append, List.length_cons, List.length_nil] at *); omega) (by have := HW7.out.low.size; omega)).mono ?_
              rintro e w8 ⟨rfl, h8⟩
              have HK8 := Lib.hid (HK7.out.oth (by decide) (by omega) h8.oth)
              have HS8 := Lib.hid (HS7.out.oth (by decide) (by omega) h8.oth)
              have HM8 := Lib.hid (IMap.oth HM7.out hmb h8.oth)
              have HV8 := Lib.hid (HV7.out.low h8.low)
              have HW8 := Lib.hid (HW7.out.step h8)
              clear h8
              go_wp2_with fail
              go_roundw
              case rel =>
                refine ⟨i + 1, by omega, by go_num, ?_, HS8.out, HM8.out⟩
                have hw := HW8.out
                rw [HPT.out, HPK.out]
                simpa [List.append_assoc] using hw
              case measure => simp [intOf]; omega
            · skip
              -- not the first, high
              have HPT : Hid (l ++ ((shp f.kind).1 ++ joinB (shp f.kind).2.1 ((f.kids.map Fm.part).take (i + 1))) = ((l ++ ((shp f.kind).1 ++ joinB (shp f.kind).2.1 ((f.kids.map Fm.part).take i))) ++ (shp f.kind).2.1) ++ k.part) := Lib.hid (by rw [HJ.out, if_neg h0]; simp [List.append_assoc])
              have HPK : Hid (k.part = k.txt) := Lib.hid (by unfold Fm.part parT; rw [if_neg (by omega)])
              have hjl2 := HJL.out
              rw [if_neg h0, HPK.out] at hjl2
              have hlen4 := HLEN.out
              have hxl : (l ++ ((shp f.kind).1 ++ joinB (shp f.kind).2.1 ((f.kids.map Fm.part).take i))).length = l.length + ((shp f.kind).1.length + (joinB (shp f.kind).2.1 ((f.kids.map Fm.part).take i)).length) := by rw [List.length_append, List.length_append]
              have HXL := Lib.hid (And.intro hjl2 (And.intro hlen4 hxl))
              have hip : 0 < (i : Int) := by omega
              clear hjl2 hlen4 hxl h0
              go_wp2_with fail
              refine (wr_str B b (l ++ ((shp f.kind).1 ++ joinB (shp f.kind).2.1 ((f.kids.map Fm.part).take i))) (shp f.kind).2.1 _ HW4.out.isB (by obtain ⟨u1, u2, u3⟩ := HXL.out; (try simp only [List.length_append, List.length_cons, List.length_nil] at *); omega) (by have := HW4.out.low.size; omega)).mono ?_
              rintro e w5 ⟨rfl, h5⟩
              have HK5 := Lib.hid (HK4.out.oth (by decide) (by omega) h5.oth)
              have HS5 := Lib.hid (HS4.out.oth (by decide) (by omega) h5.oth)
              have HM5 := Lib.hid (IMap.oth HM4.out hmb h5.oth)
              have HV5 := Lib.hid (HV4.out.low h5.low)
              have HW5 := Lib.hid (HW4.out.step h5)
              have k5 := HK5.out.cell 0
              have k51 := HK5.out.cell 1
              have k52 := HK5.out.cell 2
              have k53 := HK5.out.cell 3
              clear h5
              go_wp2_with fail
              refine (HIH.out k hksz (d - 1) hkwf _ mb B b ((l ++ ((shp f.kind).1 ++ joinB (shp f.kind).2.1 ((f.kids.map Fm.part).take i))) ++ (shp f.kind).2.1) A' c' HM5.out hmb HW5.out.isB (by have := HW5.out.low.size; omega) HV5.out (by obtain ⟨u1, u2, u3⟩ := HXL.out; (try simp only [List.length_append, List.length_cons, List.length_nil] at *); omega)).mono ?_
              rintro e w6 ⟨rfl, h6⟩
              have HK6 := Lib.hid (HK5.out.oth (by decide) (by omega) h6.oth)
              have HS6 := Lib.hid (HS5.out.oth (by decide) (by omega) h6.oth)
              have HM6 := Lib.hid (IMap.oth HM5.out hmb h6.oth)
              have HV6 := Lib.hid (HV5.out.low h6.low)
              have HW6 := Lib.hid (HW5.out.step h6)
              clear h6
              go_wp2_with fail
              go_roundw
              case rel =>
                refine ⟨i + 1, by omega, by go_num, ?_, HS6.out, HM6.out⟩
                have hw := HW6.out
                rw [HPT.out, HPK.out]
                simpa [List.append_assoc] using hw
              case measure => simp [intOf]; omega
        · obtain rfl : i = f.kids.length := by omega
          have HFX : Hid (l ++ f.txt = (l ++ ((shp f.kind).1 ++ joinB (shp f.kind).2.1 ((f.kids.map Fm.part).take f.kids.length))) ++ (shp f.kind).2.2) := Lib.hid (by rw [HTX.out, List.take_of_length_le (by simp)]; simp [List.append_assoc])
          have HXL : Hid ((l ++ ((shp f.kind).1 ++ joinB (shp f.kind).2.1 ((f.kids.map Fm.part).take f.kids.length))).length + (shp f.kind).2.2.length ≤ 140737488355328) := Lib.hid (by
            have := HLEN.out
            have h2 := joinB_take_le (shp f.kind).2.1 (f.kids.map Fm.part) f.kids.length
            rw [List.length_append, List.length_append]
            omega)
          have s3 := HSR.out.cell 3
          go_wp2_with fail
          refine (wr_str B b (l ++ ((shp f.kind).1 ++ joinB (shp f.kind).2.1 ((f.kids.map Fm.part).take f.kids.length))) (shp f.kind).2.2 _ HWR.out.isB HXL.out (by omega)).mono ?_
          rintro e w4 ⟨rfl, h4⟩
          have HW4 := Lib.hid (HWR.out.step h4)
          clear h4
          go_wp2_with fail
          go_end0
          rw [HFX.out]
          exact ⟨rfl, HW4.out⟩
end Go.Proofs.YtijecfmblddanaaDoor
