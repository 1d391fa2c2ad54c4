/- Parsing by the document: part (printed by laws9i.py). Parsing by the document: Parse (printed by laws9j.py). -/
import Derived.Test.YtijecfmblddanaaGreatDoorG10
import Derived.Test.YtijecfmblddanaaGreatDoorG12
import Derived.Test.YtijecfmblddanaaGreatDoorG6
import Derived.Test.YtijecfmblddanaaGreatDoorG9
set_option linter.unusedVariables false
set_option linter.unusedSimpArgs false
namespace Go.Proofs.YtijecfmblddanaaGreatDoor
open Go.RowKit Go.Maps

/-- A formula that is handed back where something went wrong. -/
theorem rs_zero {w w' : World} {pb tb to c k0 k : Nat} {l : List Tk} {e : Int} {m : Nat} {bad deep : Bool} (hg : w.grownBy w' (some pb)) (hs : RsSt w' pb tb to c l (.off e m) k bad deep) (hk : k0 ≤ k) (hpb : pb < w.heap.size) (htb : tb < w.heap.size) :
    RPost w pb tb to c l k0 (.bad e m) (.returned (.agg #[.int .i64 0, .string ⟨#[]⟩, .int .i64 0, .slice none 0 0])) ((((w'.setCell ⟨w.heap.size, 0, none⟩ (.int .i64 0)).setCell ⟨w.heap.size, 1, none⟩ (.string ⟨#[]⟩)).setCell ⟨w.heap.size, 2, none⟩ (.int .i64 0)).setCell ⟨w.heap.size, 3, none⟩ (.slice none 0 0)) := by
  refine ⟨fm0, none, 0, k, bad, deep, rfl, hk, ?_, ?_, ⟨by decide, by decide, by decide, by decide, .nil _⟩, fun f t h => by cases h⟩
  · exact grown_new (grown_new (grown_new (grown_new hg (Nat.le_refl _) _) (Nat.le_refl _) _) (Nat.le_refl _) _) (Nat.le_refl _) _
  · exact (((hs.far (by omega) (by omega) _).far (by omega) (by omega) _).far (by omega) (by omega) _).far (by omega) (by omega) _
theorem rs_zero' {w w' : World} {pb tb to c k0 k : Nat} {l : List Tk} {e : Int} {m : Nat} {bad deep : Bool} (hg : w.grownBy w' (some pb)) (hs : RsSt w' pb tb to c l (.off e m) k bad deep) (hk : k0 ≤ k) :
    RPost w pb tb to c l k0 (.bad e m) (.returned (.agg #[.int .i64 0, .string ⟨#[]⟩, .int .i64 0, .slice none 0 0])) w' :=
  ⟨fm0, none, 0, k, bad, deep, rfl, hk, hg, hs, ⟨by decide, by decide, by decide, by decide, .nil _⟩, fun f t h => by cases h⟩
/-- A formula without parts that is handed back. -/
theorem rs_leaf {w w' : World} {pb tb to c k0 k : Nat} {l : List Tk} {kd : Int} {nm : List UInt8} (hg : w.grownBy w' (some pb)) (hs : RsSt w' pb tb to c l (.on k) k false false) (hk : k0 ≤ k) (hkd : 1 ≤ kd ∧ kd ≤ 18) (hnm : nm.length ≤ 140737488355328) (hpb : pb < w.heap.size) (htb : tb < w.heap.size) :
    RPost w pb tb to c l k0 (.ok (.mk kd nm 0 []) (leftT l k)) (.returned (.agg #[.int .i64 kd, .string ⟨nm.toArray⟩, .int .i64 0, .slice none 0 0])) ((((w'.setCell ⟨w.heap.size, 0, none⟩ (.int .i64 kd)).setCell ⟨w.heap.size, 1, none⟩ (.string ⟨nm.toArray⟩)).setCell ⟨w.heap.size, 2, none⟩ (.int .i64 0)).setCell ⟨w.heap.size, 3, none⟩ (.slice none 0 0)) := by
  refine ⟨.mk kd nm 0 [], none, 0, k, false, false, rfl, hk, ?_, ?_, ⟨by simp [Fm.kids], by simp [Fm.kids], by simp [Fm.kind]; omega, by simpa [Fm.name] using hnm, .nil _⟩, fun f t h => by cases h; exact ⟨rfl, rfl⟩⟩
  · exact grown_new (grown_new (grown_new (grown_new hg (Nat.le_refl _) _) (Nat.le_refl _) _) (Nat.le_refl _) _) (Nat.le_refl _) _
  · rw [stOf_left hs.k]
    exact (((hs.far (by omega) (by omega) _).far (by omega) (by omega) _).far (by omega) (by omega) _).far (by omega) (by omega) _

theorem key_ur {s : List UInt8} (hu : unaryK s = 0) (h1 : (s == [69]) = false) (h2 : (s == [65]) = false) (h3 : (s == [116, 114, 117, 101]) = false) (h4 : (s == [102, 97, 108, 115, 101]) = false) : keyB s = (s == [85] || s == [82]) := by
  have n1 : s ≠ [69] := by simpa using h1
  have n2 : s ≠ [65] := by simpa using h2
  have n3 : s ≠ [116, 114, 117, 101] := by simpa using h3
  have n4 : s ≠ [102, 97, 108, 115, 101] := by simpa using h4
  have m : s ≠ [69, 88] ∧ s ≠ [65, 88] ∧ s ≠ [69, 70] ∧ s ≠ [65, 70] ∧ s ≠ [69, 71] ∧ s ≠ [65, 71] := by
    refine ⟨?_, ?_, ?_, ?_, ?_, ?_⟩ <;> (rintro rfl; revert hu; decide)
  obtain ⟨m1, m2, m3, m4, m5, m6⟩ := m
  unfold keyB keyWords
  rw [Bool.eq_iff_iff]
  simp [n1, n2, n3, n4, m1, m2, m3, m4, m5, m6]
theorem paren_fin {l : List Tk} {g : List KT → PR} {k k2 : Nat} {a : Fm} (hk2 : k2 < l.length) (h2 : ∀ f t, rOf l g (.on k) = .ok f t → a = f ∧ t = leftT l k2) (hk5 : needS l (stOf l (rOf l g (.on k))) [41] = .on (k2 + 1) → k2 + 1 < l.length) :
    stOf l ((g (leftT l k)).bind fun f t' => needP [41] t' fun t'' => .ok f t'') = needS l (stOf l (rOf l g (.on k))) [41] ∧
    ∀ f t, ((g (leftT l k)).bind fun f t' => needP [41] t' fun t'' => .ok f t'') = .ok f t → a = f ∧ t = leftT l (k2 + 1) ∧ needS l (stOf l (rOf l g (.on k))) [41] = .on (k2 + 1) := by
  have e0 : rOf l g (.on k) = g (leftT l k) := rfl
  rw [e0] at h2 hk5 ⊢
  cases hg : g (leftT l k) with
  | bad e m => exact ⟨rfl, fun f t h => by cases h⟩
  | ok f2 t2 =>
    obtain ⟨rfl, rfl⟩ := h2 _ _ hg
    rw [hg, stOf_left hk2] at hk5
    rw [PR.bind_ok, stOf_left hk2]
    have e9 : needS l (.on k2) [41] = if takes [41] (leftT l k2) then .on (k2 + 1) else .off 41 (l.length - k2) := rfl
    unfold needP
    by_cases c5 : takes [41] (leftT l k2) = true
    · rw [if_pos c5] at e9
      rw [if_pos c5, leftT_tail, e9]
      exact ⟨stOf_left (hk5 e9), fun f t h => by cases h; exact ⟨rfl, rfl, rfl⟩⟩
    · rw [if_neg c5] at e9
      rw [if_neg c5, e9]
      refine ⟨?_, fun f t h => by cases h⟩
      show RS.off 41 (leftT l k2).length = _
      rw [leftT_len]

set_option maxRecDepth 100000 in
set_option maxHeartbeats 16000000 in
theorem rpart_step (n : Nat) (hPC : RPartC n) (hWC : RWholeC n) : RPartC (n + 1) := by
  intro w pb tb to c k0 l s bad0 deep0 d hT hS hd0 hd1 hn
  have hpl := hS.lt
  have htl := hS.t.lt
  have hlk := hS.k
  have hbA := stepA w (.cells #[.int .i64 0, .string ⟨#[]⟩, .int .i64 0, .slice none 0 0] 28)
  have hRs := Blk.new w 28 #[.int .i64 0, .string ⟨#[]⟩, .int .i64 0, .slice none 0 0]
  have HGs := Lib.hid (grown_of hbA (some pb))
  have HSs := Lib.hid (hS.after hbA)
  obtain ⟨R0, hR0⟩ : ∃ R0, R0 = rOf l (partP (n + 1) d) s := ⟨_, rfl⟩
  rw [← hR0]
  have HRs := Lib.hid hRs
  have HPC := Lib.hid hPC
  have HWC := Lib.hid hWC
  have HS0 := Lib.hid hS
  have q2 := Blk.cell hS.p 2
  have q3 := Blk.cell hS.p 3
  have qf2 := Blk.frozen hS.p 2
  have qf3 := Blk.frozen hS.p 3
  clear hbA hPC hWC hRs
  cases hb : bad0 with
  | true =>
    rw [hb] at q2
    have HE : Hid (∃ e m, s = .off e m ∧ R0 = .bad e m) := Lib.hid (by
      have h := hS.i
      rw [hb] at h
      cases s with
      | on k' => exact absurd h.2.1 (by decide)
      | off e m => exact ⟨e, m, rfl, hR0⟩)
    clear hR0 hS
    by_cases hd : 200 < d
    all_goals
      go_enter Tryz.func73, Tryz.ntmps73
      go_wp2_with fail
      clear q2 q3 qf2 qf3
      have z0 := HRs.out.cell 0
      have z1 := HRs.out.cell 1
      have z2 := HRs.out.cell 2
      have z3 := HRs.out.cell 3
      refine bodyPost_ret (v := .agg #[.int .i64 0, .string ⟨#[]⟩, .int .i64 0, .slice none 0 0]) (by simp [results, Tryz.results73, go_sem, z0, z1, z2, z3]) rfl ?_
      obtain ⟨e, m, h1, h2⟩ := HE.out
      rw [h2]
      exact rs_zero' HGs.out (by rw [← h1]; exact HSs.out) (Nat.le_refl _)
  | false =>
    rw [hb] at q2
    by_cases hd : 200 < d
    · have HE : Hid (R0 = .bad 2 0) := Lib.hid (by
        have h := hS.i
        rw [hb] at h
        rw [hR0]
        cases s with
        | on k' =>
          show partP (n + 1) d (leftT l k') = _
          rw [partP, if_pos hd]
        | off e m => exact absurd h.1 (by decide))
      clear hR0 hS
      go_enter Tryz.func73, Tryz.ntmps73
      go_wp2_with fail
      clear q2 q3 qf2 qf3
      have hgq : w.grownBy ((w.setCell ⟨pb, 2, none⟩ (.bool true)).setCell ⟨pb, 3, none⟩ (.bool true)) (some pb) := grown_set (grown_set (World.grownBy.refl _ _) _ _) _ _
      have hsq : ((w.setCell ⟨pb, 2, none⟩ (.bool true)).setCell ⟨pb, 3, none⟩ (.bool true)).heap.size = w.heap.size := by simp [World.setCell]
      have hbq := stepA ((w.setCell ⟨pb, 2, none⟩ (.bool true)).setCell ⟨pb, 3, none⟩ (.bool true)) (.cells #[.int .i64 0, .string ⟨#[]⟩, .int .i64 0, .slice none 0 0] 28)
      have hZ : Blk (((w.setCell ⟨pb, 2, none⟩ (.bool true)).setCell ⟨pb, 3, none⟩ (.bool true)).alloc (.cells #[.int .i64 0, .string ⟨#[]⟩, .int .i64 0, .slice none 0 0] 28)) w.heap.size 28 #[.int .i64 0, .string ⟨#[]⟩, .int .i64 0, .slice none 0 0] := by
        have := Blk.new ((w.setCell ⟨pb, 2, none⟩ (.bool true)).setCell ⟨pb, 3, none⟩ (.bool true)) 28 #[.int .i64 0, .string ⟨#[]⟩, .int .i64 0, .slice none 0 0]
        rwa [hsq] at this
      have z0 := hZ.cell 0
      have z1 := hZ.cell 1
      have z2 := hZ.cell 2
      have z3 := hZ.cell 3
      refine bodyPost_ret (v := .agg #[.int .i64 0, .string ⟨#[]⟩, .int .i64 0, .slice none 0 0]) (by simp [results, Tryz.results73, go_sem, z0, z1, z2, z3]) rfl ?_
      rw [HE.out]
      exact rs_zero' (bad := true) (deep := true) (grown_trans hgq (grown_of hbq _)) ((HS0.out.step hgq (Blk.set_ (Blk.set_ HS0.out.p 2 (.bool true)) 3 (.bool true)) (show RsI l (.off 2 0) k0 true true from ⟨rfl, .inl ⟨rfl, rfl, rfl⟩⟩) HS0.out.k).after hbq) (Nat.le_refl _)
    · -- the token
      have hd' : d ≤ 200 := by omega
      have hi := hS.i
      rw [hb] at hi HSs HS0
      obtain ⟨t, ht⟩ : ∃ t, l[k0]? = some t := ⟨_, List.getElem?_eq_getElem hS.k⟩
      have htm : t ∈ l := List.mem_of_getElem? ht
      have hon : s = .on k0 ∧ deep0 = false := by
        cases s with
        | on k' => exact ⟨by rw [hi.1], hi.2.2⟩
        | off e m => exact absurd hi.1 (by decide)
      obtain ⟨rfl, rfl⟩ := hon
      have HK : Hid (t.text ≠ [] → k0 + 1 < l.length) := Lib.hid fun h => by
        rcases Nat.lt_or_ge (k0 + 1) l.length with h' | h'
        · exact h'
        · have e : k0 = l.length - 1 := by omega
          exact absurd (hT.last t (by rw [← e]; exact ht)).2 h
      have HZT := Lib.hid (hT.zero t htm)
      have HNM := Lib.hid (hT.name t htm)
      have hlen := hT.len t htm
      have hhd : hdT (leftT l k0) = (t.kind, t.text) := by rw [leftT_at ht]; rfl
      have HTK : Hid (∀ x, takes x (leftT l k0) = (!decide (t.kind = 0) && decide (t.text = x))) := Lib.hid fun x => by rw [leftT_at ht]; rfl
      have HPE : Hid (R0 = if unaryK t.text ≠ 0 then (partP n (d + 1) (leftT l (k0 + 1))).bind (fun f t' => .ok (.mk (unaryK t.text) [] 0 [f]) t')
        else if takes [40] (leftT l k0) then (wholeP n (d + 1) (leftT l (k0 + 1))).bind fun f t' => needP [41] t' fun t'' => .ok f t''
        else if takes [69] (leftT l k0) then untilP (wholeP n (d + 1)) 15 17 (leftT l (k0 + 1))
        else if takes [65] (leftT l k0) then untilP (wholeP n (d + 1)) 16 18 (leftT l (k0 + 1))
        else if takes [116, 114, 117, 101] (leftT l k0) then .ok (.mk 2 [] 0 []) (leftT l (k0 + 1))
        else if takes [102, 97, 108, 115, 101] (leftT l k0) then .ok (.mk 1 [] 0 []) (leftT l (k0 + 1))
        else if t.kind = 1 ∧ keyB t.text = false then .ok (.mk 3 (unq t.text) 0 []) (leftT l (k0 + 1)) else .bad 41 (l.length - k0)) := Lib.hid (by
        rw [hR0]
        show partP (n + 1) d (leftT l k0) = _
        rw [partP, if_neg hd]
        unfold atomP
        rw [hhd, leftT_tail, leftT_len])
      have HTKR : Hid (∀ W, Below (w.alloc (.cells #[.int .i64 0, .string ⟨#[]⟩, .int .i64 0, .slice none 0 0] 28)).heap.size (w.alloc (.cells #[.int .i64 0, .string ⟨#[]⟩, .int .i64 0, .slice none 0 0] 28)) W → W.cell? ⟨pb, 0, none⟩ = some (.slice (some ⟨tb, to, none⟩) l.length c) ∧ W.cell? ⟨pb, 1, none⟩ = some (.int .i64 (k0 : Int)) ∧ W.cell? ⟨tb, to + 3 * k0, none⟩ = some (.int .i64 t.kind) ∧ W.cell? ⟨tb, to + 3 * k0 + 1, none⟩ = some (.string ⟨t.text.toArray⟩) ∧ W.cell? ⟨tb, to + 3 * k0 + 2, none⟩ = some (.int .i64 (t.place : Int))) := Lib.hid fun W hb => by
        have h := HSs.out.after hb
        exact ⟨Blk.cell h.p 0, Blk.cell h.p 1, h.t.kind k0 t ht, h.t.text k0 t ht, h.t.place k0 t ht⟩
      have HW1 : Hid ((w.alloc (.cells #[.int .i64 0, .string ⟨#[]⟩, .int .i64 0, .slice none 0 0] 28)).heap.size = w.heap.size + 1) := Lib.hid (World.size_alloc _ _)
      have hlk' : (k0 : Int) < (l.length : Int) := by omega
      have hmul : to + k0 * 3 = to + 3 * k0 := by omega
      have hmul1 : to + k0 * 3 + 1 = to + 3 * k0 + 1 := by omega
      have hmul2 : to + k0 * 3 + 2 = to + 3 * k0 + 2 := by omega
      clear hi hb ht htm hhd hR0 hS hd
      go_enter Tryz.func73, Tryz.ntmps73
      go_wp2_with fail
      clear q2 q3 qf2 qf3
      generalize w.alloc (.cells #[.int .i64 0, .string ⟨#[]⟩, .int .i64 0, .slice none 0 0] 28) = w1 at HSs HGs HRs HTKR HW1 ⊢
      refine wp_region_noPanic ?_
      refine wp_region_seq (fun W => W.cell? ⟨pb, 0, none⟩ = some (.slice (some ⟨tb, to, none⟩) l.length c) ∧ W.cell? ⟨pb, 1, none⟩ = some (.int .i64 (k0 : Int)) ∧ W.cell? ⟨tb, to + 3 * k0, none⟩ = some (.int .i64 t.kind) ∧ W.cell? ⟨tb, to + 3 * k0 + 1, none⟩ = some (.string ⟨t.text.toArray⟩) ∧ W.cell? ⟨tb, to + 3 * k0 + 2, none⟩ = some (.int .i64 (t.place : Int))) [0, 1, 2, 3, 4, 5, 6, 7, 8, 9, 10, 11] [0, 1, 2, 3, 4, 5, 6, 7, 8, 9] [] (by kernel_rfl) (by kernel_rfl) rfl (by kernel_rfl) (by kernel_rfl) (fun _ _ _ _ _ h => h) ?_ (fun hSS => ?_)
      · exact HTKR.out _ (stepD1 _)
      clear hSS
      have HD1 := Lib.hid (stepD1 w1)
      generalize w1.drew = w2 at HD1 ⊢
      (refine wpSeq_mov rfl rfl ?_; intro o ho; simp only [List.getElem?_toArray, List.getElem?_cons_zero, List.getElem?_cons_succ, Option.some.injEq] at ho; subst ho; refine ⟨?_, Or.inl ⟨by rfl, fun W hSW => ?_⟩, ?_⟩; rotate_left; (focus (go_simp; first | done | with_reducible rfl)); try simp only [Act.put, List.setIfInBounds_toArray, List.set_cons_zero, List.set_cons_succ])
      (refine wpSeq_mov rfl rfl ?_; intro o ho; simp only [List.getElem?_toArray, List.getElem?_cons_zero, List.getElem?_cons_succ, Option.some.injEq] at ho; subst ho; refine ⟨?_, Or.inl ⟨by rfl, fun W hSW => ?_⟩, ?_⟩; rotate_left; (focus (go_simp; first | done | with_reducible rfl)); try simp only [Act.put, List.setIfInBounds_toArray, List.set_cons_zero, List.set_cons_succ])
      (refine wpSeq_mov rfl rfl ?_; intro o ho; simp only [List.getElem?_toArray, List.getElem?_cons_zero, List.getElem?_cons_succ, Option.some.injEq] at ho; subst ho; refine ⟨?_, Or.inl ⟨by rfl, fun W hSW => ?_⟩, ?_⟩; rotate_left; (focus (go_simp; first | done | with_reducible rfl)); try simp only [Act.put, List.setIfInBounds_toArray, List.set_cons_zero, List.set_cons_succ])
      (refine wpSeq_mov rfl rfl ?_; intro o ho; simp only [List.getElem?_toArray, List.getElem?_cons_zero, List.getElem?_cons_succ, Option.some.injEq] at ho; subst ho; refine ⟨?_, Or.inl ⟨by rfl, fun W hSW => ?_⟩, ?_⟩; rotate_left; (focus (go_simp; first | done | with_reducible rfl)); try simp only [Act.put, List.setIfInBounds_toArray, List.set_cons_zero, List.set_cons_succ])
      (refine wpSeq_mov rfl rfl ?_; intro o ho; simp only [List.getElem?_toArray, List.getElem?_cons_zero, List.getElem?_cons_succ, Option.some.injEq] at ho; subst ho; refine ⟨?_, Or.inl ⟨by rfl, fun W hSW => ?_⟩, ?_⟩; rotate_left; (focus (go_simp; first | done | with_reducible rfl)); try simp only [Act.put, List.setIfInBounds_toArray, List.set_cons_zero, List.set_cons_succ])
      (refine wpSeq_mov rfl rfl ?_; intro o ho; simp only [List.getElem?_toArray, List.getElem?_cons_zero, List.getElem?_cons_succ, Option.some.injEq] at ho; subst ho; refine ⟨?_, Or.inl ⟨by rfl, fun W hSW => ?_⟩, ?_⟩; rotate_left; (focus (go_simp; first | done | with_reducible rfl)); try simp only [Act.put, List.setIfInBounds_toArray, List.set_cons_zero, List.set_cons_succ])
      (refine wpSeq_mov rfl rfl ?_; intro o ho; simp only [List.getElem?_toArray, List.getElem?_cons_zero, List.getElem?_cons_succ, Option.some.injEq] at ho; subst ho; refine ⟨?_, Or.inl ⟨by rfl, fun W hSW => ?_⟩, ?_⟩; rotate_left; (focus (go_simp; first | done | with_reducible rfl)); try simp only [Act.put, List.setIfInBounds_toArray, List.set_cons_zero, List.set_cons_succ])
      (refine wpSeq_mov rfl rfl ?_; intro o ho; simp only [List.getElem?_toArray, List.getElem?_cons_zero, List.getElem?_cons_succ, Option.some.injEq] at ho; subst ho; refine ⟨?_, Or.inl ⟨by rfl, fun W hSW => ?_⟩, ?_⟩; rotate_left; (focus (go_simp; first | done | with_reducible rfl)); try simp only [Act.put, List.setIfInBounds_toArray, List.set_cons_zero, List.set_cons_succ])
      (refine wpSeq_mov rfl rfl ?_; intro o ho; simp only [List.getElem?_toArray, List.getElem?_cons_zero, List.getElem?_cons_succ, Option.some.injEq] at ho; subst ho; refine ⟨?_, Or.inl ⟨by rfl, fun W hSW => ?_⟩, ?_⟩; rotate_left; (focus (go_simp; first | done | with_reducible rfl)); try simp only [Act.put, List.setIfInBounds_toArray, List.set_cons_zero, List.set_cons_succ])
      (refine wpSeq_mov rfl rfl ?_; intro o ho; simp only [List.getElem?_toArray, List.getElem?_cons_zero, List.getElem?_cons_succ, Option.some.injEq] at ho; subst ho; refine ⟨?_, Or.inl ⟨by rfl, fun W hSW => ?_⟩, ?_⟩; rotate_left; (focus (go_simp; first | done | with_reducible rfl)); try simp only [Act.put, List.setIfInBounds_toArray, List.set_cons_zero, List.set_cons_succ])
      have hbT := stepA w2 (.cells #[.int .i64 0, .string ⟨#[]⟩, .int .i64 0] 53)
      (refine wpSeq_fix rfl rfl ?_; intro o ho; simp only [List.getElem?_toArray, List.getElem?_cons_zero, List.getElem?_cons_succ, Option.some.injEq] at ho; subst ho; intro K hK)
      go_simp
      (refine hK.out _ _ (fun _ => HTKR.out _ (step2 HD1.out hbT)) ?_; clear hK K; try simp only [Act.put, List.setIfInBounds_toArray, List.set_cons_zero, List.set_cons_succ])
      have HT3 := Lib.hid (Blk.new w2 53 #[.int .i64 t.kind, .string ⟨t.text.toArray⟩, .int .i64 (t.place : Int)])
      have hz2 := HD1.out.size
      have HD3 : Hid (Below w1.heap.size w1 (w2.alloc (.cells #[.int .i64 t.kind, .string ⟨t.text.toArray⟩, .int .i64 (t.place : Int)] 53))) := Lib.hid (step2 HD1.out (stepA w2 (.cells #[.int .i64 t.kind, .string ⟨t.text.toArray⟩, .int .i64 (t.place : Int)] 53)))
      clear hbT
      (refine wpSeq_fix rfl rfl ?_; intro o ho; simp only [List.getElem?_toArray, List.getElem?_cons_zero, List.getElem?_cons_succ, Option.some.injEq] at ho; subst ho; intro K hK)
      go_simp
      (refine hK.out _ _ (fun _ => HTKR.out _ HD3.out) ?_; clear hK K; try simp only [Act.put, List.setIfInBounds_toArray, List.set_cons_zero, List.set_cons_succ])
      refine wpSeq_done ?_
      obtain ⟨xt, hxt⟩ : ∃ xt, xt = w2.heap.size := ⟨_, rfl⟩
      have hxtw : w.heap.size < xt := by have := HW1.out; omega
      rw [← hxt] at HT3 ⊢
      generalize w2.alloc (.cells #[.int .i64 t.kind, .string ⟨t.text.toArray⟩, .int .i64 (t.place : Int)] 53) = w3 at HT3 HD3 ⊢
      clear hxt hz2 HD1
      have t1 := HT3.out.cell 1
      go_wp2_with fail
      refine (runary_any t.text w3).mono ?_
      rintro e w4 ⟨rfl, hb4⟩
      have HD4 := Lib.hid (step2 HD3.out hb4)
      have HT := Lib.hid (HT3.out.below hb4 HT3.out.lt)
      have HS := Lib.hid (HSs.out.after HD4.out)
      have HR := Lib.hid (HRs.out.below HD4.out HRs.out.lt)
      have HG := Lib.hid (grown_trans HGs.out (grown_of HD4.out (some pb)))
      have hw4 : w.heap.size < w4.heap.size := by have := HD4.out.size; have := HW1.out; omega
      have hxt4 := HT.out.lt
      have hku : 0 ≤ unaryK t.text ∧ unaryK t.text ≤ 18 := by
        unfold unaryK
        repeat' split
        all_goals decide
      obtain ⟨hku0, hku1⟩ := hku
      clear t1 hb4 HT3 HD3 HD4 HTKR HSs HGs HRs HW1
      have t0 := HT.out.cell 0
      have t1 := HT.out.cell 1
      by_cases hk0 : t.kind = 0
      · have hk0' : (t.kind == 0) = true := by simp [hk0]
        have HE : Hid (R0 = .bad 41 (l.length - k0)) := Lib.hid (by
          have hz := HZT.out hk0
          have hno : ∀ x, takes x (leftT l k0) = false := fun x => by rw [HTK.out, hk0]; rfl
          rw [HPE.out, hz, if_neg (fun h => h rfl), hno, hno, hno, hno, hno]
          rw [if_neg (by decide), if_neg (by decide), if_neg (by decide), if_neg (by decide), if_neg (by decide), if_neg (by rw [hk0]; intro h; exact absurd h.1 (by decide))])
        have q2 := Blk.cell HS.out.p 2
        have qf2 := Blk.frozen HS.out.p 2
        clear hk0
        have y0 := HR.out.cell 0
        have y1 := HR.out.cell 1
        have y2 := HR.out.cell 2
        have y3 := HR.out.cell 3
        have x0 := HR.out.frozen 0
        have x1 := HR.out.frozen 1
        have x2 := HR.out.frozen 2
        have x3 := HR.out.frozen 3
        have hpr : pb ≠ w.heap.size := by omega
        go_wp2_with fail
        clear x0 x1 x2 x3 y0 y1 y2 y3
        clear q2 qf2
        have HSo : Hid (RsSt (w4.setCell ⟨pb, 2, none⟩ (.bool true)) pb tb to c l (.off 41 (l.length - k0)) k0 true false) := Lib.hid (HS.out.step (grown_set (World.grownBy.refl _ _) _ _) (Blk.set_ HS.out.p 2 (.bool true)) (show RsI l (.off 41 (l.length - k0)) k0 true false from ⟨rfl, .inr ⟨rfl, rfl, rfl⟩⟩) HS.out.k)
        have hZ := ((((HR.out.far (p := ⟨pb, 2, none⟩) (by dsimp only; omega) (.bool true)).set_ 0 (.int .i64 0)).set_ 1 (.string ⟨#[]⟩)).set_ 2 (.int .i64 0)).set_ 3 (.slice none 0 0)
        have z0 := hZ.cell 0
        have z1 := hZ.cell 1
        have z2 := hZ.cell 2
        have z3 := hZ.cell 3
        refine bodyPost_ret (v := .agg #[.int .i64 0, .string ⟨#[]⟩, .int .i64 0, .slice none 0 0]) (by simp [results, Tryz.results73, go_sem, z0, z1, z2, z3]) rfl ?_
        rw [HE.out]
        exact rs_zero (grown_set HG.out 2 (.bool true)) HSo.out (Nat.le_refl _) (by omega) (by omega)
      · have hk0' : (t.kind == 0) = false := by simp [hk0]
        have HTK' : Hid (∀ x, takes x (leftT l k0) = (t.text == x)) := Lib.hid fun x => by rw [HTK.out, decide_eq_false hk0, Bool.not_false, Bool.true_and, Bool.eq_iff_iff]; simp
        clear hk0
        by_cases hu : unaryK t.text = 0
        · have hu' : ¬ (0 : Int) < unaryK t.text := by omega
          replace HPE := Lib.hid (HPE.out.trans (by rw [if_neg (fun h => h hu)]))
          have HU := Lib.hid hu
          clear hu
          go_wp2_with fail
          have HIS := Lib.hid (ris_any HS.out [40])
          have hisv : isS l (.on k0) [40] = (t.text == [40]) := HTK'.out [40]
          rw [hisv] at HIS
          have htkv := HTK'.out [40]
          clear hisv
          cases hv1 : (t.text == [40]) with
          | true =>
            have hv := hv1
            rw [hv1] at HIS htkv
            replace HPE := Lib.hid (HPE.out.trans (by rw [htkv, if_pos rfl]))
            clear htkv
            refine HIS.out.mono ?_
            clear HIS
            rintro e w5 ⟨rfl, hb⟩
            replace HT := Lib.hid (HT.out.below hb HT.out.lt)
            replace HS := Lib.hid (HS.out.after hb)
            replace HR := Lib.hid (HR.out.below hb HR.out.lt)
            replace HG := Lib.hid (grown_trans HG.out (grown_of hb (some pb)))
            replace hw4 := Nat.lt_of_lt_of_le hw4 hb.size
            clear hb t0 t1
            have t0 := HT.out.cell 0
            have t1 := HT.out.cell 1
            have hne : t.text ≠ [] := fun e => by rw [e] at hv; exact absurd hv (by decide)
            have hk1 := HK.out hne
            have q1 := Blk.cell HS.out.p 1
            have qf := Blk.frozen HS.out.p 1
            have hwk : (k0 : Int) + 1 ≤ 30000 := by have := hT.many; omega
            have HS5 := Lib.hid (HS.out.next hk1)
            have HG5 := Lib.hid (grown_set HG.out 1 (.int .i64 ((k0 : Int) + 1)))
            have HR5 := Lib.hid (HR.out.far (p := ⟨pb, 1, none⟩) (by dsimp only; omega) (.int .i64 ((k0 : Int) + 1)))
            have hw5 : w.heap.size < (w5.setCell ⟨pb, 1, none⟩ (.int .i64 ((k0 : Int) + 1))).heap.size := by simp only [World.setCell, Array.size_modify]; exact hw4
            clear hne

            go_wp2_with fail
            clear q1 qf
            generalize w5.setCell ⟨pb, 1, none⟩ (.int .i64 ((k0 : Int) + 1)) = v5 at HS5 HG5 HR5 hw5 ⊢
            refine (HWC.out v5 pb tb to c (k0 + 1) l (.on (k0 + 1)) false false (d + 1) hT HS5.out (by omega) (by omega) (by omega)).mono ?_
            rintro e w6 ⟨f, A, cf, k2, bad2, deep2, rfl, hP⟩
            have hs6 := hP.g.size
            have hbA := stepA w6 (.cells #[.int .i64 f.kind, .string ⟨f.name.toArray⟩, .int .i64 f.lit, .slice A f.kids.length cf] 28)
            have HXF := Lib.hid (Blk.new w6 28 #[.int .i64 f.kind, .string ⟨f.name.toArray⟩, .int .i64 f.lit, .slice A f.kids.length cf])
            have HR7 := Lib.hid ((HR5.out.grown hP.g (by simp; omega)).alloc (.cells #[.int .i64 f.kind, .string ⟨f.name.toArray⟩, .int .i64 f.lit, .slice A f.kids.length cf] 28))
            have HG7 := Lib.hid (grown_trans (grown_trans HG5.out hP.g) (grown_of hbA _))
            have HS7 := Lib.hid (hP.s.after hbA)
            have HV7 : Hid (FmVQ (w6.alloc (.cells #[.int .i64 f.kind, .string ⟨f.name.toArray⟩, .int .i64 f.lit, .slice A f.kids.length cf] 28)) (fun q => w.heap.size < q ∧ q < (w6.alloc (.cells #[.int .i64 f.kind, .string ⟨f.name.toArray⟩, .int .i64 f.lit, .slice A f.kids.length cf] 28)).heap.size) f A cf) := Lib.hid (hP.v.low (B := w6.heap.size) (fun q hq => by simp only [World.size_alloc]; omega) hbA)
            have HF7 := Lib.hid hP.f
            have hkm := hP.km
            have hk2l := hP.s.k
            obtain ⟨xf, hxf⟩ : ∃ xf, xf = w6.heap.size := ⟨_, rfl⟩
            have hxfw : w.heap.size < xf := by omega
            have hxfl : xf < (w6.alloc (.cells #[.int .i64 f.kind, .string ⟨f.name.toArray⟩, .int .i64 f.lit, .slice A f.kids.length cf] 28)).heap.size := by rw [hxf]; simp
            rw [← hxf] at HXF
            clear hP hbA hs6
            unfold fmA
            go_wp2_with fail
            rw [← hxf]
            generalize w6.alloc (.cells #[.int .i64 f.kind, .string ⟨f.name.toArray⟩, .int .i64 f.lit, .slice A f.kids.length cf] 28) = w7 at HXF HR7 HG7 HS7 HV7 hxfl ⊢
            clear hxf
            refine (rneed_any hT HS7.out [41]).mono ?_
            rintro e w8 ⟨k5, bad5, deep5, rfl, hS9, hg9, hk5⟩
            have hz9 := hg9.size
            have hX9 := HXF.out.grown hg9 (by simp; omega)
            have g0 := hX9.cell 0
            have g1 := hX9.cell 1
            have g2 := hX9.cell 2
            have g3 := hX9.cell 3
            have HR9 := Lib.hid (HR7.out.grown hg9 (by simp; omega))
            have HQ9 : Hid (FmVQ w8 (fun q => w.heap.size < q ∧ q < w8.heap.size) f A cf) := Lib.hid (HV7.out.keep (fun q hq => ⟨hq.1, by omega⟩) (fun q hq => hg9.block q hq.2 (by have := hq.1; simp; omega)))
            have HP9 : Hid (RsOk w pb tb to c l k0 R0 f A cf k5 bad5 deep5 w8) := Lib.hid (by
              have hi5 : needS l (stOf l (rOf l (wholeP n (d + 1)) (.on (k0 + 1)))) [41] = .on (k2 + 1) → k5 = k2 + 1 := fun h => by
                have := hS9.i
                rw [h] at this
                exact this.1
              obtain ⟨e1, e2⟩ := paren_fin hk2l HF7.out (fun h => by have := hS9.k; have := hi5 h; omega)
              rw [HPE.out]
              refine ⟨by omega, grown_trans HG7.out hg9, by rw [e1]; exact hS9, HQ9.out.keep (fun q hq => ⟨by omega, hq.2⟩) (fun _ _ => rfl), fun f' t' h => ?_⟩
              obtain ⟨h1, h2, h3⟩ := e2 f' t' h
              exact ⟨h1, by rw [h2, hi5 h3]⟩)
            clear hS9 hg9 hX9
            have y0 := HR9.out.cell 0
            have y1 := HR9.out.cell 1
            have y2 := HR9.out.cell 2
            have y3 := HR9.out.cell 3
            have x0 := HR9.out.frozen 0
            have x1 := HR9.out.frozen 1
            have x2 := HR9.out.frozen 2
            have x3 := HR9.out.frozen 3
            go_wp2_with fail
            clear x0 x1 x2 x3 y0 y1 y2 y3
            have hZ := (((HR9.out.set_ 0 (.int .i64 f.kind)).set_ 1 (.string ⟨f.name.toArray⟩)).set_ 2 (.int .i64 f.lit)).set_ 3 (.slice A f.kids.length cf)
            have z0 := hZ.cell 0
            have z1 := hZ.cell 1
            have z2 := hZ.cell 2
            have z3 := hZ.cell 3
            refine bodyPost_ret (v := fmA f A cf) (by simp [fmA, results, Tryz.results73, go_sem, z0, z1, z2, z3]) rfl ?_
            exact rs_store HP9.out HQ9.out (by omega) (by omega)
          | false =>
            rw [hv1] at HIS htkv
            replace HPE := Lib.hid (HPE.out.trans (by rw [htkv, if_neg (by decide)]))
            clear htkv
            refine HIS.out.mono ?_
            clear HIS
            rintro e w5 ⟨rfl, hb⟩
            replace HT := Lib.hid (HT.out.below hb HT.out.lt)
            replace HS := Lib.hid (HS.out.after hb)
            replace HR := Lib.hid (HR.out.below hb HR.out.lt)
            replace HG := Lib.hid (grown_trans HG.out (grown_of hb (some pb)))
            replace hw4 := Nat.lt_of_lt_of_le hw4 hb.size
            clear hb t0 t1
            have t0 := HT.out.cell 0
            have t1 := HT.out.cell 1
            go_wp2_with fail

            have HIS := Lib.hid (ris_any HS.out [69])
            have hisv : isS l (.on k0) [69] = (t.text == [69]) := HTK'.out [69]
            rw [hisv] at HIS
            have htkv := HTK'.out [69]
            clear hisv
            cases hv5 : (t.text == [69]) with
            | true =>
              have hv := hv5
              rw [hv5] at HIS htkv
              replace HPE := Lib.hid (HPE.out.trans (by rw [htkv, if_pos rfl]))
              clear htkv
              refine HIS.out.mono ?_
              clear HIS
              rintro e w6 ⟨rfl, hb⟩
              replace HT := Lib.hid (HT.out.below hb HT.out.lt)
              replace HS := Lib.hid (HS.out.after hb)
              replace HR := Lib.hid (HR.out.below hb HR.out.lt)
              replace HG := Lib.hid (grown_trans HG.out (grown_of hb (some pb)))
              replace hw4 := Nat.lt_of_lt_of_le hw4 hb.size
              clear hb t0 t1
              have t0 := HT.out.cell 0
              have t1 := HT.out.cell 1
              have hne : t.text ≠ [] := fun e => by rw [e] at hv; exact absurd hv (by decide)
              have hk1 := HK.out hne
              have q1 := Blk.cell HS.out.p 1
              have qf := Blk.frozen HS.out.p 1
              have hwk : (k0 : Int) + 1 ≤ 30000 := by have := hT.many; omega
              have HS5 := Lib.hid (HS.out.next hk1)
              have HG5 := Lib.hid (grown_set HG.out 1 (.int .i64 ((k0 : Int) + 1)))
              have HR5 := Lib.hid (HR.out.far (p := ⟨pb, 1, none⟩) (by dsimp only; omega) (.int .i64 ((k0 : Int) + 1)))
              have hw5 : w.heap.size < (w6.setCell ⟨pb, 1, none⟩ (.int .i64 ((k0 : Int) + 1))).heap.size := by simp only [World.setCell, Array.size_modify]; exact hw4
              clear hne
              have h65 : (t.text == [65]) = false := by rw [beq_iff_eq] at hv; rw [hv]; rfl
              go_wp2_with fail
              clear q1 qf
              generalize w6.setCell ⟨pb, 1, none⟩ (.int .i64 ((k0 : Int) + 1)) = v5 at HS5 HG5 HR5 hw5 ⊢
              have hun := runtil_any hT (.on (k0 + 1)) false false HS5.out 0 d (by decide) ⟨by omega, by omega⟩ (wholeP n (d + 1)) (fun W s' k' bad deep hg hs hk => HWC.out W pb tb to c k' l s' bad deep (d + 1) hT hs (by omega) (by omega) (by omega))
              refine hun.mono ?_
              clear hun
              rintro e w6 ⟨f, A, cf, k2, bad2, deep2, rfl, hP⟩
              have hs6 := hP.g.size
              have HR9 := Lib.hid (HR5.out.grown hP.g (by simp; omega))
              have HP9 : Hid (RsOk v5 pb tb to c l (k0 + 1) R0 f A cf k2 bad2 deep2 w6) := Lib.hid (by rw [HPE.out]; exact hP)
              clear hP
              unfold fmA
              have y0 := HR9.out.cell 0
              have y1 := HR9.out.cell 1
              have y2 := HR9.out.cell 2
              have y3 := HR9.out.cell 3
              have x0 := HR9.out.frozen 0
              have x1 := HR9.out.frozen 1
              have x2 := HR9.out.frozen 2
              have x3 := HR9.out.frozen 3
              go_wp2_with fail
              clear x0 x1 x2 x3 y0 y1 y2 y3
              have hZ := (((HR9.out.set_ 0 (.int .i64 f.kind)).set_ 1 (.string ⟨f.name.toArray⟩)).set_ 2 (.int .i64 f.lit)).set_ 3 (.slice A f.kids.length cf)
              have z0 := hZ.cell 0
              have z1 := hZ.cell 1
              have z2 := hZ.cell 2
              have z3 := hZ.cell 3
              refine bodyPost_ret (v := fmA f A cf) (by simp [fmA, results, Tryz.results73, go_sem, z0, z1, z2, z3]) rfl ?_
              exact rs_finish (xr := w.heap.size) HG5.out (Nat.le_refl _) (by omega) HP9.out (by omega) (by omega) (by omega)
            | false =>
              rw [hv5] at HIS htkv
              replace HPE := Lib.hid (HPE.out.trans (by rw [htkv, if_neg (by decide)]))
              clear htkv
              refine HIS.out.mono ?_
              clear HIS
              rintro e w6 ⟨rfl, hb⟩
              replace HT := Lib.hid (HT.out.below hb HT.out.lt)
              replace HS := Lib.hid (HS.out.after hb)
              replace HR := Lib.hid (HR.out.below hb HR.out.lt)
              replace HG := Lib.hid (grown_trans HG.out (grown_of hb (some pb)))
              replace hw4 := Nat.lt_of_lt_of_le hw4 hb.size
              clear hb t0 t1
              have t0 := HT.out.cell 0
              have t1 := HT.out.cell 1
              go_wp2_with fail

              have HIS := Lib.hid (ris_any HS.out [65])
              have hisv : isS l (.on k0) [65] = (t.text == [65]) := HTK'.out [65]
              rw [hisv] at HIS
              have htkv := HTK'.out [65]
              clear hisv
              cases hv4 : (t.text == [65]) with
              | true =>
                have hv := hv4
                rw [hv4] at HIS htkv
                replace HPE := Lib.hid (HPE.out.trans (by rw [htkv, if_pos rfl]))
                clear htkv
                refine HIS.out.mono ?_
                clear HIS
                rintro e w7 ⟨rfl, hb⟩
                replace HT := Lib.hid (HT.out.below hb HT.out.lt)
                replace HS := Lib.hid (HS.out.after hb)
                replace HR := Lib.hid (HR.out.below hb HR.out.lt)
                replace HG := Lib.hid (grown_trans HG.out (grown_of hb (some pb)))
                replace hw4 := Nat.lt_of_lt_of_le hw4 hb.size
                clear hb t0 t1
                have t0 := HT.out.cell 0
                have t1 := HT.out.cell 1
                have hne : t.text ≠ [] := fun e => by rw [e] at hv; exact absurd hv (by decide)
                have hk1 := HK.out hne
                have q1 := Blk.cell HS.out.p 1
                have qf := Blk.frozen HS.out.p 1
                have hwk : (k0 : Int) + 1 ≤ 30000 := by have := hT.many; omega
                have HS5 := Lib.hid (HS.out.next hk1)
                have HG5 := Lib.hid (grown_set HG.out 1 (.int .i64 ((k0 : Int) + 1)))
                have HR5 := Lib.hid (HR.out.far (p := ⟨pb, 1, none⟩) (by dsimp only; omega) (.int .i64 ((k0 : Int) + 1)))
                have hw5 : w.heap.size < (w7.setCell ⟨pb, 1, none⟩ (.int .i64 ((k0 : Int) + 1))).heap.size := by simp only [World.setCell, Array.size_modify]; exact hw4
                clear hne
                have h65 : (t.text == [65]) = true := hv
                go_wp2_with fail
                clear q1 qf
                generalize w7.setCell ⟨pb, 1, none⟩ (.int .i64 ((k0 : Int) + 1)) = v5 at HS5 HG5 HR5 hw5 ⊢
                have hun := runtil_any hT (.on (k0 + 1)) false false HS5.out 1 d (by decide) ⟨by omega, by omega⟩ (wholeP n (d + 1)) (fun W s' k' bad deep hg hs hk => HWC.out W pb tb to c k' l s' bad deep (d + 1) hT hs (by omega) (by omega) (by omega))
                refine hun.mono ?_
                clear hun
                rintro e w6 ⟨f, A, cf, k2, bad2, deep2, rfl, hP⟩
                have hs6 := hP.g.size
                have HR9 := Lib.hid (HR5.out.grown hP.g (by simp; omega))
                have HP9 : Hid (RsOk v5 pb tb to c l (k0 + 1) R0 f A cf k2 bad2 deep2 w6) := Lib.hid (by rw [HPE.out]; exact hP)
                clear hP
                unfold fmA
                have y0 := HR9.out.cell 0
                have y1 := HR9.out.cell 1
                have y2 := HR9.out.cell 2
                have y3 := HR9.out.cell 3
                have x0 := HR9.out.frozen 0
                have x1 := HR9.out.frozen 1
                have x2 := HR9.out.frozen 2
                have x3 := HR9.out.frozen 3
                go_wp2_with fail
                clear x0 x1 x2 x3 y0 y1 y2 y3
                have hZ := (((HR9.out.set_ 0 (.int .i64 f.kind)).set_ 1 (.string ⟨f.name.toArray⟩)).set_ 2 (.int .i64 f.lit)).set_ 3 (.slice A f.kids.length cf)
                have z0 := hZ.cell 0
                have z1 := hZ.cell 1
                have z2 := hZ.cell 2
                have z3 := hZ.cell 3
                refine bodyPost_ret (v := fmA f A cf) (by simp [fmA, results, Tryz.results73, go_sem, z0, z1, z2, z3]) rfl ?_
                exact rs_finish (xr := w.heap.size) HG5.out (Nat.le_refl _) (by omega) HP9.out (by omega) (by omega) (by omega)
              | false =>
                rw [hv4] at HIS htkv
                replace HPE := Lib.hid (HPE.out.trans (by rw [htkv, if_neg (by decide)]))
                clear htkv
                refine HIS.out.mono ?_
                clear HIS
                rintro e w7 ⟨rfl, hb⟩
                replace HT := Lib.hid (HT.out.below hb HT.out.lt)
                replace HS := Lib.hid (HS.out.after hb)
                replace HR := Lib.hid (HR.out.below hb HR.out.lt)
                replace HG := Lib.hid (grown_trans HG.out (grown_of hb (some pb)))
                replace hw4 := Nat.lt_of_lt_of_le hw4 hb.size
                clear hb t0 t1
                have t0 := HT.out.cell 0
                have t1 := HT.out.cell 1
                go_wp2_with fail

                have HIS := Lib.hid (ris_any HS.out [116, 114, 117, 101])
                have hisv : isS l (.on k0) [116, 114, 117, 101] = (t.text == [116, 114, 117, 101]) := HTK'.out [116, 114, 117, 101]
                rw [hisv] at HIS
                have htkv := HTK'.out [116, 114, 117, 101]
                clear hisv
                cases hv3 : (t.text == [116, 114, 117, 101]) with
                | true =>
                  have hv := hv3
                  rw [hv3] at HIS htkv
                  replace HPE := Lib.hid (HPE.out.trans (by rw [htkv, if_pos rfl]))
                  clear htkv
                  refine HIS.out.mono ?_
                  clear HIS
                  rintro e w8 ⟨rfl, hb⟩
                  replace HT := Lib.hid (HT.out.below hb HT.out.lt)
                  replace HS := Lib.hid (HS.out.after hb)
                  replace HR := Lib.hid (HR.out.below hb HR.out.lt)
                  replace HG := Lib.hid (grown_trans HG.out (grown_of hb (some pb)))
                  replace hw4 := Nat.lt_of_lt_of_le hw4 hb.size
                  clear hb t0 t1
                  have t0 := HT.out.cell 0
                  have t1 := HT.out.cell 1
                  have hne : t.text ≠ [] := fun e => by rw [e] at hv; exact absurd hv (by decide)
                  have hk1 := HK.out hne
                  have q1 := Blk.cell HS.out.p 1
                  have qf := Blk.frozen HS.out.p 1
                  have hwk : (k0 : Int) + 1 ≤ 30000 := by have := hT.many; omega
                  have HS5 := Lib.hid (HS.out.next hk1)
                  have HG5 := Lib.hid (grown_set HG.out 1 (.int .i64 ((k0 : Int) + 1)))
                  have HR5 := Lib.hid (HR.out.far (p := ⟨pb, 1, none⟩) (by dsimp only; omega) (.int .i64 ((k0 : Int) + 1)))
                  have hw5 : w.heap.size < (w8.setCell ⟨pb, 1, none⟩ (.int .i64 ((k0 : Int) + 1))).heap.size := by simp only [World.setCell, Array.size_modify]; exact hw4
                  clear hne

                  have HRa := Lib.hid HR5.out
                  have y0 := HR.out.cell 0
                  have y1 := HR.out.cell 1
                  have y2 := HR.out.cell 2
                  have y3 := HR.out.cell 3
                  have x0 := HR.out.frozen 0
                  have x1 := HR.out.frozen 1
                  have x2 := HR.out.frozen 2
                  have x3 := HR.out.frozen 3
                  have hpr : pb ≠ w.heap.size := by omega
                  go_wp2_with fail
                  clear x0 x1 x2 x3 y0 y1 y2 y3
                  clear q1 qf
                  generalize w8.setCell ⟨pb, 1, none⟩ (.int .i64 ((k0 : Int) + 1)) = v5 at HS5 HG5 HR5 hw5 HRa ⊢
                  have hZ := (((HRa.out.set_ 0 (.int .i64 2)).set_ 1 (.string ⟨#[]⟩)).set_ 2 (.int .i64 0)).set_ 3 (.slice none 0 0)
                  have z0 := hZ.cell 0
                  have z1 := hZ.cell 1
                  have z2 := hZ.cell 2
                  have z3 := hZ.cell 3
                  refine bodyPost_ret (v := .agg #[.int .i64 2, .string ⟨#[]⟩, .int .i64 0, .slice none 0 0]) (by simp [results, Tryz.results73, go_sem, z0, z1, z2, z3]) rfl ?_
                  rw [HPE.out]
                  exact rs_leaf (nm := []) HG5.out HS5.out (by omega) (by decide) (by decide) (by omega) (by omega)
                | false =>
                  rw [hv3] at HIS htkv
                  replace HPE := Lib.hid (HPE.out.trans (by rw [htkv, if_neg (by decide)]))
                  clear htkv
                  refine HIS.out.mono ?_
                  clear HIS
                  rintro e w8 ⟨rfl, hb⟩
                  replace HT := Lib.hid (HT.out.below hb HT.out.lt)
                  replace HS := Lib.hid (HS.out.after hb)
                  replace HR := Lib.hid (HR.out.below hb HR.out.lt)
                  replace HG := Lib.hid (grown_trans HG.out (grown_of hb (some pb)))
                  replace hw4 := Nat.lt_of_lt_of_le hw4 hb.size
                  clear hb t0 t1
                  have t0 := HT.out.cell 0
                  have t1 := HT.out.cell 1
                  go_wp2_with fail

                  have HIS := Lib.hid (ris_any HS.out [102, 97, 108, 115, 101])
                  have hisv : isS l (.on k0) [102, 97, 108, 115, 101] = (t.text == [102, 97, 108, 115, 101]) := HTK'.out [102, 97, 108, 115, 101]
                  rw [hisv] at HIS
                  have htkv := HTK'.out [102, 97, 108, 115, 101]
                  clear hisv
                  cases hv2 : (t.text == [102, 97, 108, 115, 101]) with
                  | true =>
                    have hv := hv2
                    rw [hv2] at HIS htkv
                    replace HPE := Lib.hid (HPE.out.trans (by rw [htkv, if_pos rfl]))
                    clear htkv
                    refine HIS.out.mono ?_
                    clear HIS
                    rintro e w9 ⟨rfl, hb⟩
                    replace HT := Lib.hid (HT.out.below hb HT.out.lt)
                    replace HS := Lib.hid (HS.out.after hb)
                    replace HR := Lib.hid (HR.out.below hb HR.out.lt)
                    replace HG := Lib.hid (grown_trans HG.out (grown_of hb (some pb)))
                    replace hw4 := Nat.lt_of_lt_of_le hw4 hb.size
                    clear hb t0 t1
                    have t0 := HT.out.cell 0
                    have t1 := HT.out.cell 1
                    have hne : t.text ≠ [] := fun e => by rw [e] at hv; exact absurd hv (by decide)
                    have hk1 := HK.out hne
                    have q1 := Blk.cell HS.out.p 1
                    have qf := Blk.frozen HS.out.p 1
                    have hwk : (k0 : Int) + 1 ≤ 30000 := by have := hT.many; omega
                    have HS5 := Lib.hid (HS.out.next hk1)
                    have HG5 := Lib.hid (grown_set HG.out 1 (.int .i64 ((k0 : Int) + 1)))
                    have HR5 := Lib.hid (HR.out.far (p := ⟨pb, 1, none⟩) (by dsimp only; omega) (.int .i64 ((k0 : Int) + 1)))
                    have hw5 : w.heap.size < (w9.setCell ⟨pb, 1, none⟩ (.int .i64 ((k0 : Int) + 1))).heap.size := by simp only [World.setCell, Array.size_modify]; exact hw4
                    clear hne

                    have HRa := Lib.hid HR5.out
                    have y0 := HR.out.cell 0
                    have y1 := HR.out.cell 1
                    have y2 := HR.out.cell 2
                    have y3 := HR.out.cell 3
                    have x0 := HR.out.frozen 0
                    have x1 := HR.out.frozen 1
                    have x2 := HR.out.frozen 2
                    have x3 := HR.out.frozen 3
                    have hpr : pb ≠ w.heap.size := by omega
                    go_wp2_with fail
                    clear x0 x1 x2 x3 y0 y1 y2 y3
                    clear q1 qf
                    generalize w9.setCell ⟨pb, 1, none⟩ (.int .i64 ((k0 : Int) + 1)) = v5 at HS5 HG5 HR5 hw5 HRa ⊢
                    have hZ := (((HRa.out.set_ 0 (.int .i64 1)).set_ 1 (.string ⟨#[]⟩)).set_ 2 (.int .i64 0)).set_ 3 (.slice none 0 0)
                    have z0 := hZ.cell 0
                    have z1 := hZ.cell 1
                    have z2 := hZ.cell 2
                    have z3 := hZ.cell 3
                    refine bodyPost_ret (v := .agg #[.int .i64 1, .string ⟨#[]⟩, .int .i64 0, .slice none 0 0]) (by simp [results, Tryz.results73, go_sem, z0, z1, z2, z3]) rfl ?_
                    rw [HPE.out]
                    exact rs_leaf (nm := []) HG5.out HS5.out (by omega) (by decide) (by decide) (by omega) (by omega)
                  | false =>
                    rw [hv2] at HIS htkv
                    replace HPE := Lib.hid (HPE.out.trans (by rw [htkv, if_neg (by decide)]))
                    clear htkv
                    refine HIS.out.mono ?_
                    clear HIS
                    rintro e w9 ⟨rfl, hb⟩
                    replace HT := Lib.hid (HT.out.below hb HT.out.lt)
                    replace HS := Lib.hid (HS.out.after hb)
                    replace HR := Lib.hid (HR.out.below hb HR.out.lt)
                    replace HG := Lib.hid (grown_trans HG.out (grown_of hb (some pb)))
                    replace hw4 := Nat.lt_of_lt_of_le hw4 hb.size
                    clear hb t0 t1
                    have t0 := HT.out.cell 0
                    have t1 := HT.out.cell 1
                    have hkb : keyB t.text = (t.text == [85] || t.text == [82]) := key_ur HU.out hv5 hv4 hv3 hv2
                    by_cases hk1' : t.kind = 1
                    · have hkk : (t.kind == 1) = true := by simp [hk1']
                      cases h85 : (t.text == [85]) with
                      | true =>
                        have h85n : (t.text != [85]) = false := by simp only [bne, h85]; rfl
                        have HE : Hid (R0 = .bad 41 (l.length - k0)) := Lib.hid (by rw [HPE.out, if_neg]; intro h; rw [hkb, h85] at h; exact absurd h.2 (by simp))
                        clear hkb hk1'
                        have q2 := Blk.cell HS.out.p 2
                        have qf2 := Blk.frozen HS.out.p 2
                        have y0 := HR.out.cell 0
                        have y1 := HR.out.cell 1
                        have y2 := HR.out.cell 2
                        have y3 := HR.out.cell 3
                        have x0 := HR.out.frozen 0
                        have x1 := HR.out.frozen 1
                        have x2 := HR.out.frozen 2
                        have x3 := HR.out.frozen 3
                        have hpr : pb ≠ w.heap.size := by omega
                        go_wp2_with fail
                        clear x0 x1 x2 x3 y0 y1 y2 y3
                        clear q2 qf2
                        have HSo : Hid (RsSt (w9.setCell ⟨pb, 2, none⟩ (.bool true)) pb tb to c l (.off 41 (l.length - k0)) k0 true false) := Lib.hid (HS.out.step (grown_set (World.grownBy.refl _ _) _ _) (Blk.set_ HS.out.p 2 (.bool true)) (show RsI l (.off 41 (l.length - k0)) k0 true false from ⟨rfl, .inr ⟨rfl, rfl, rfl⟩⟩) HS.out.k)
                        have hZ := ((((HR.out.far (p := ⟨pb, 2, none⟩) (by dsimp only; omega) (.bool true)).set_ 0 (.int .i64 0)).set_ 1 (.string ⟨#[]⟩)).set_ 2 (.int .i64 0)).set_ 3 (.slice none 0 0)
                        have z0 := hZ.cell 0
                        have z1 := hZ.cell 1
                        have z2 := hZ.cell 2
                        have z3 := hZ.cell 3
                        refine bodyPost_ret (v := .agg #[.int .i64 0, .string ⟨#[]⟩, .int .i64 0, .slice none 0 0]) (by simp [results, Tryz.results73, go_sem, z0, z1, z2, z3]) rfl ?_
                        rw [HE.out]
                        exact rs_zero (grown_set HG.out 2 (.bool true)) HSo.out (Nat.le_refl _) (by omega) (by omega)
                      | false =>
                        have h85n : (t.text != [85]) = true := by simp only [bne, h85]; rfl
                        cases h82 : (t.text == [82]) with
                        | true =>
                          have h82n : (t.text != [82]) = false := by simp only [bne, h82]; rfl
                          have HE : Hid (R0 = .bad 41 (l.length - k0)) := Lib.hid (by rw [HPE.out, if_neg]; intro h; rw [hkb, h85, h82] at h; exact absurd h.2 (by simp))
                          clear hkb hk1'
                          have q2 := Blk.cell HS.out.p 2
                          have qf2 := Blk.frozen HS.out.p 2
                          have y0 := HR.out.cell 0
                          have y1 := HR.out.cell 1
                          have y2 := HR.out.cell 2
                          have y3 := HR.out.cell 3
                          have x0 := HR.out.frozen 0
                          have x1 := HR.out.frozen 1
                          have x2 := HR.out.frozen 2
                          have x3 := HR.out.frozen 3
                          have hpr : pb ≠ w.heap.size := by omega
                          go_wp2_with fail
                          clear x0 x1 x2 x3 y0 y1 y2 y3
                          clear q2 qf2
                          have HSo : Hid (RsSt (w9.setCell ⟨pb, 2, none⟩ (.bool true)) pb tb to c l (.off 41 (l.length - k0)) k0 true false) := Lib.hid (HS.out.step (grown_set (World.grownBy.refl _ _) _ _) (Blk.set_ HS.out.p 2 (.bool true)) (show RsI l (.off 41 (l.length - k0)) k0 true false from ⟨rfl, .inr ⟨rfl, rfl, rfl⟩⟩) HS.out.k)
                          have hZ := ((((HR.out.far (p := ⟨pb, 2, none⟩) (by dsimp only; omega) (.bool true)).set_ 0 (.int .i64 0)).set_ 1 (.string ⟨#[]⟩)).set_ 2 (.int .i64 0)).set_ 3 (.slice none 0 0)
                          have z0 := hZ.cell 0
                          have z1 := hZ.cell 1
                          have z2 := hZ.cell 2
                          have z3 := hZ.cell 3
                          refine bodyPost_ret (v := .agg #[.int .i64 0, .string ⟨#[]⟩, .int .i64 0, .slice none 0 0]) (by simp [results, Tryz.results73, go_sem, z0, z1, z2, z3]) rfl ?_
                          rw [HE.out]
                          exact rs_zero (grown_set HG.out 2 (.bool true)) HSo.out (Nat.le_refl _) (by omega) (by omega)
                        | false =>
                          have h82n : (t.text != [82]) = true := by simp only [bne, h82]; rfl
                          have HE : Hid (R0 = .ok (.mk 3 (unq t.text) 0 []) (leftT l (k0 + 1))) := Lib.hid (by rw [HPE.out, if_pos]; exact ⟨hk1', by rw [hkb, h85, h82]; rfl⟩)
                          obtain ⟨hn1, hn2⟩ := HNM.out hk1'
                          have hk1 := HK.out (fun e => by rw [e] at hn1; exact absurd hn1 (by decide))
                          have q1 := Blk.cell HS.out.p 1
                          have qf := Blk.frozen HS.out.p 1
                          have hwk : (k0 : Int) + 1 ≤ 30000 := by have := hT.many; omega
                          have HS5 := Lib.hid (HS.out.next hk1)
                          have HG5 := Lib.hid (grown_set HG.out 1 (.int .i64 ((k0 : Int) + 1)))
                          have HR5 := Lib.hid (HR.out.far (p := ⟨pb, 1, none⟩) (by dsimp only; omega) (.int .i64 ((k0 : Int) + 1)))
                          have hpr : pb ≠ w.heap.size := by omega
                          have hpx : pb ≠ xt := by omega
                          have hs0 : 0 < (⟨t.text.toArray⟩ : ByteArray).size := by show 0 < t.text.toArray.size; rw [List.size_toArray]; exact hn1
                          have y0 := HR.out.cell 0
                          have y1 := HR.out.cell 1
                          have y2 := HR.out.cell 2
                          have y3 := HR.out.cell 3
                          have x0 := HR.out.frozen 0
                          have x1 := HR.out.frozen 1
                          have x2 := HR.out.frozen 2
                          have x3 := HR.out.frozen 3
                          clear hkb hk1'
                          by_cases hch : (⟨t.text.toArray⟩ : ByteArray)[0].toNat = 34
                          · have hcc : (((⟨t.text.toArray⟩ : ByteArray)[0].toNat : Int) == 34) = true := by simp; omega
                            have HUN : Hid (unq t.text = (t.text.take (t.text.length - 1)).drop 1 ∧ 2 ≤ t.text.length) := Lib.hid (by
                              have hh : t.text.head? = some 34 := by
                                have hx : (⟨t.text.toArray⟩ : ByteArray)[0] = t.text[0] := rfl
                                rw [hx] at hch
                                rw [List.head?_eq_getElem?, List.getElem?_eq_getElem hn1]
                                congr 1
                                exact UInt8.toNat_inj.1 hch
                              exact ⟨by unfold unq; rw [if_pos hh], hn2 hh⟩)
                            have hs2 : 2 ≤ t.text.length := HUN.out.2
                            have HEX : Hid ((⟨t.text.toArray⟩ : ByteArray).extract 1 (t.text.length - 1) = ⟨(unq t.text).toArray⟩) := Lib.hid (by
                              have h := Lib.extract_data (⟨t.text.toArray⟩ : ByteArray) 1 (t.text.length - 1)
                              cases hx : (⟨t.text.toArray⟩ : ByteArray).extract 1 (t.text.length - 1) with
                              | mk dd =>
                                rw [hx] at h
                                have h' : dd.toList = unq t.text := by
                                  rw [h, HUN.out.1, List.drop_take]
                                congr 1
                                rw [← h'])
                            clear hch hn2
                            go_wp2_with fail
                            rw [HEX.out]
                            clear x0 x1 x2 x3 y0 y1 y2 y3 q1 qf
                            have hZ := (((HR5.out.set_ 0 (.int .i64 3)).set_ 1 (.string ⟨(unq t.text).toArray⟩)).set_ 2 (.int .i64 0)).set_ 3 (.slice none 0 0)
                            have z0 := hZ.cell 0
                            have z1 := hZ.cell 1
                            have z2 := hZ.cell 2
                            have z3 := hZ.cell 3
                            refine bodyPost_ret (v := .agg #[.int .i64 3, .string ⟨(unq t.text).toArray⟩, .int .i64 0, .slice none 0 0]) (by simp [results, Tryz.results73, go_sem, z0, z1, z2, z3]) rfl ?_
                            rw [HE.out]
                            exact rs_leaf (nm := unq t.text) HG5.out HS5.out (by omega) (by decide) (by rw [HUN.out.1]; simp; omega) (by omega) (by omega)
                          · have hcc : (((⟨t.text.toArray⟩ : ByteArray)[0].toNat : Int) == 34) = false := by simp; omega
                            have HUN : Hid (unq t.text = t.text) := Lib.hid (by
                              unfold unq
                              rw [if_neg]
                              intro hh
                              apply hch
                              rw [List.head?_eq_getElem?, List.getElem?_eq_getElem hn1] at hh
                              have hx : (⟨t.text.toArray⟩ : ByteArray)[0] = t.text[0] := rfl
                              rw [hx, Option.some.inj hh]
                              rfl)
                            clear hch hn2
                            go_wp2_with fail
                            skip
                            clear x0 x1 x2 x3 y0 y1 y2 y3 q1 qf
                            have hZ := (((HR5.out.set_ 0 (.int .i64 3)).set_ 1 (.string ⟨(t.text).toArray⟩)).set_ 2 (.int .i64 0)).set_ 3 (.slice none 0 0)
                            have z0 := hZ.cell 0
                            have z1 := hZ.cell 1
                            have z2 := hZ.cell 2
                            have z3 := hZ.cell 3
                            refine bodyPost_ret (v := .agg #[.int .i64 3, .string ⟨(t.text).toArray⟩, .int .i64 0, .slice none 0 0]) (by simp [results, Tryz.results73, go_sem, z0, z1, z2, z3]) rfl ?_
                            rw [HE.out, HUN.out]
                            exact rs_leaf (nm := t.text) HG5.out HS5.out (by omega) (by decide) (by omega) (by omega) (by omega)
                    · have hkk : (t.kind == 1) = false := by simp [hk1']
                      have HE : Hid (R0 = .bad 41 (l.length - k0)) := Lib.hid (by rw [HPE.out, if_neg (fun h => hk1' h.1)])
                      clear hkb hk1'
                      have q2 := Blk.cell HS.out.p 2
                      have qf2 := Blk.frozen HS.out.p 2
                      have y0 := HR.out.cell 0
                      have y1 := HR.out.cell 1
                      have y2 := HR.out.cell 2
                      have y3 := HR.out.cell 3
                      have x0 := HR.out.frozen 0
                      have x1 := HR.out.frozen 1
                      have x2 := HR.out.frozen 2
                      have x3 := HR.out.frozen 3
                      have hpr : pb ≠ w.heap.size := by omega
                      go_wp2_with fail
                      clear x0 x1 x2 x3 y0 y1 y2 y3
                      clear q2 qf2
                      have HSo : Hid (RsSt (w9.setCell ⟨pb, 2, none⟩ (.bool true)) pb tb to c l (.off 41 (l.length - k0)) k0 true false) := Lib.hid (HS.out.step (grown_set (World.grownBy.refl _ _) _ _) (Blk.set_ HS.out.p 2 (.bool true)) (show RsI l (.off 41 (l.length - k0)) k0 true false from ⟨rfl, .inr ⟨rfl, rfl, rfl⟩⟩) HS.out.k)
                      have hZ := ((((HR.out.far (p := ⟨pb, 2, none⟩) (by dsimp only; omega) (.bool true)).set_ 0 (.int .i64 0)).set_ 1 (.string ⟨#[]⟩)).set_ 2 (.int .i64 0)).set_ 3 (.slice none 0 0)
                      have z0 := hZ.cell 0
                      have z1 := hZ.cell 1
                      have z2 := hZ.cell 2
                      have z3 := hZ.cell 3
                      refine bodyPost_ret (v := .agg #[.int .i64 0, .string ⟨#[]⟩, .int .i64 0, .slice none 0 0]) (by simp [results, Tryz.results73, go_sem, z0, z1, z2, z3]) rfl ?_
                      rw [HE.out]
                      exact rs_zero (grown_set HG.out 2 (.bool true)) HSo.out (Nat.le_refl _) (by omega) (by omega)
        · have hu' : (0 : Int) < unaryK t.text := by omega
          have hne : t.text ≠ [] := fun e => by rw [e] at hu; exact hu rfl
          have hk1 := HK.out hne
          replace HPE := Lib.hid (HPE.out.trans (by rw [if_pos hu]))
          have q1 := Blk.cell HS.out.p 1
          have qf := Blk.frozen HS.out.p 1
          have HS5 := Lib.hid (HS.out.next hk1)
          have HG5 := Lib.hid (grown_set HG.out 1 (.int .i64 ((k0 : Int) + 1)))
          have HR5 := Lib.hid (HR.out.far (p := ⟨pb, 1, none⟩) (by dsimp only; omega) (.int .i64 ((k0 : Int) + 1)))
          have hw5 : w.heap.size < (w4.setCell ⟨pb, 1, none⟩ (.int .i64 ((k0 : Int) + 1))).heap.size := by simp only [World.setCell, Array.size_modify]; exact hw4
          have hwk : (k0 : Int) + 1 ≤ 30000 := by have := hT.many; omega
          generalize unaryK t.text = kd at HPE hku0 hku1 hu' ⊢
          clear hu hne
          go_wp2_with fail
          clear q1 qf
          generalize w4.setCell ⟨pb, 1, none⟩ (.int .i64 ((k0 : Int) + 1)) = w5 at HS5 HG5 HR5 hw5 ⊢
          refine (HPC.out w5 pb tb to c (k0 + 1) l (.on (k0 + 1)) false false (d + 1) hT HS5.out (by omega) (by omega) (by omega)).mono ?_
          rintro e w6 ⟨f, A, cf, k2, bad2, deep2, rfl, hP⟩
          have hs6 := hP.g.size
          have hbW := stepA w6 (.cells #[.int .i64 f.kind, .string ⟨f.name.toArray⟩, .int .i64 f.lit, .slice A f.kids.length cf] 28)
          have hRW := Blk.new w6 28 #[.int .i64 f.kind, .string ⟨f.name.toArray⟩, .int .i64 f.lit, .slice A f.kids.length cf]
          have HR9 := Lib.hid ((HR5.out.grown hP.g (by simp; omega)).alloc (.cells #[.int .i64 f.kind, .string ⟨f.name.toArray⟩, .int .i64 f.lit, .slice A f.kids.length cf] 28))
          have hwz : (w6.alloc (.cells #[.int .i64 f.kind, .string ⟨f.name.toArray⟩, .int .i64 f.lit, .slice A f.kids.length cf] 28)).heap.size = w6.heap.size + 1 := World.size_alloc _ _
          have hv1 : FmVQ (w6.alloc (.cells #[.int .i64 f.kind, .string ⟨f.name.toArray⟩, .int .i64 f.lit, .slice A f.kids.length cf] 28)) (fun q => w.heap.size < q ∧ q < (w6.alloc (.cells #[.int .i64 f.kind, .string ⟨f.name.toArray⟩, .int .i64 f.lit, .slice A f.kids.length cf] 28)).heap.size) f A cf := hP.v.low (B := w6.heap.size) (fun q hq => ⟨hq.2, by omega, by omega⟩) hbW
          have HQ9 : Hid (FmVQ (w6.alloc (.cells #[.int .i64 f.kind, .string ⟨f.name.toArray⟩, .int .i64 f.lit, .slice A f.kids.length cf] 28)) (fun q => w.heap.size < q ∧ q < (w6.alloc (.cells #[.int .i64 f.kind, .string ⟨f.name.toArray⟩, .int .i64 f.lit, .slice A f.kids.length cf] 28)).heap.size) (.mk kd [] 0 [f]) (some ⟨w6.heap.size, 0, none⟩) 1) := Lib.hid ⟨by simp [Fm.kids], by simp [Fm.kids], by simp [Fm.kind]; omega, by simp [Fm.name], FmQ.one ⟨by omega, by omega⟩ hRW hv1⟩
          have HP9 : Hid (RsOk w pb tb to c l k0 R0 (.mk kd [] 0 [f]) (some ⟨w6.heap.size, 0, none⟩) 1 k2 bad2 deep2 (w6.alloc (.cells #[.int .i64 f.kind, .string ⟨f.name.toArray⟩, .int .i64 f.lit, .slice A f.kids.length cf] 28))) := Lib.hid (by
            have hkm := hP.km
            rw [HPE.out]
            refine ⟨by omega, grown_trans (grown_trans HG5.out hP.g) (grown_of hbW _), ?_, ⟨by simp [Fm.kids], by simp [Fm.kids], by simp [Fm.kind]; omega, by simp [Fm.name], HQ9.out.kids.keep (fun b hb => ⟨by omega, hb.2⟩) (fun _ _ _ => rfl)⟩, ?_⟩
            · rw [stOf_bind (F := fun f => .mk kd [] 0 [f])]
              exact hP.s.after hbW
            · intro f' t' h
              obtain ⟨g', h1, h2⟩ := bind_ok_inv (F := fun f => .mk kd [] 0 [f]) h
              obtain ⟨rfl, h3⟩ := hP.f g' t' h1
              exact ⟨h2.symm, h3⟩)
          clear hP hbW hRW hv1 hwz
          unfold fmA
          have y0 := HR9.out.cell 0
          have y1 := HR9.out.cell 1
          have y2 := HR9.out.cell 2
          have y3 := HR9.out.cell 3
          have x0 := HR9.out.frozen 0
          have x1 := HR9.out.frozen 1
          have x2 := HR9.out.frozen 2
          have x3 := HR9.out.frozen 3
          go_wp2_with fail
          clear x0 x1 x2 x3 y0 y1 y2 y3
          have hZ := (((HR9.out.set_ 0 (.int .i64 kd)).set_ 1 (.string ⟨#[]⟩)).set_ 2 (.int .i64 0)).set_ 3 (.slice (some ⟨w6.heap.size, 0, none⟩) 1 1)
          have z0 := hZ.cell 0
          have z1 := hZ.cell 1
          have z2 := hZ.cell 2
          have z3 := hZ.cell 3
          refine bodyPost_ret (v := .agg #[.int .i64 kd, .string ⟨#[]⟩, .int .i64 0, .slice (some ⟨w6.heap.size, 0, none⟩) 1 1]) (by simp [results, Tryz.results73, go_sem, z0, z1, z2, z3]) rfl ?_
          exact rs_store HP9.out HQ9.out (by omega) (by omega)
end Go.Proofs.YtijecfmblddanaaGreatDoor

set_option linter.unusedVariables false
set_option linter.unusedSimpArgs false
namespace Go.Proofs.YtijecfmblddanaaGreatDoor
open Go.RowKit Go.Maps

theorem rparse_all : ∀ n, RPartC n ∧ RImplyC n ∧ RWholeC n
  | 0 => ⟨fun w pb tb to c k l s b d' d _ _ _ _ h => by omega, fun w pb tb to c k l s b d' d _ _ _ _ h => by omega, fun w pb tb to c k l s b d' d _ _ _ _ h => by omega⟩
  | n + 1 => by
    obtain ⟨h1, h2, h3⟩ := rparse_all n
    exact ⟨rpart_step n h1 h3, rimply_step n h1 h2, rwhole_step n h2⟩

theorem step2' {w w1 w2 : World} (h : Below w.heap.size w w1) (h' : Below w1.heap.size w1 w2) : Below w.heap.size w w2 := step2 h h'
set_option maxRecDepth 100000 in
set_option maxHeartbeats 8000000 in
theorem rparse_any (s : ByteArray) (hs : s.size ≤ 140737488355328) (w : World) : Calls Tryz.prog 14 #[.string s] w (ParsePost w (parseOf s.data.toList)) := by
  have HL := Lib.hid (fun W => rlex_new s hs W)
  have hb0 := stepA w (.cells #[.int .i64 0, .string ⟨#[]⟩, .int .i64 0, .slice none 0 0] 28)
  have hz0 : (w.alloc (.cells #[.int .i64 0, .string ⟨#[]⟩, .int .i64 0, .slice none 0 0] 28)).heap.size = w.heap.size + 1 := World.size_alloc _ _
  have HR0 := Lib.hid (Blk.new w 28 #[.int .i64 0, .string ⟨#[]⟩, .int .i64 0, .slice none 0 0])
  have HB0 := Lib.hid hb0
  clear hb0
  go_enter Tryz.func14, Tryz.ntmps14
  go_wp2_with fail
  generalize w.alloc (.cells #[.int .i64 0, .string ⟨#[]⟩, .int .i64 0, .slice none 0 0] 28) = w0 at hz0 HR0 HB0 ⊢
  refine (HL.out _).mono ?_
  clear HL
  rintro e w1 ⟨A, c, rfl, hc, hv, hb, hnew⟩
  have HR := Lib.hid (HR0.out.below hb HR0.out.lt)
  have HB : Hid (Below w.heap.size w w1) := Lib.hid (HB0.out.trans (hb.mono (by omega)))
  have hz1 := hb.size
  by_cases hbad : 20000 < s.data.toList.length ∨ lexBad s.data.toList = true
  · obtain ⟨E, p, h1, h2, h3⟩ := parseOf_bad hbad
    have HPO := Lib.hid h3
    rw [h1]
    have hE : (E == 0) = false := by simp [h2]
    have hE2 : (E != 0) = true := by simp [h2]
    clear hb hbad h1 h2 h3 hc hv hnew
    have y0 := HR.out.cell 0
    have y1 := HR.out.cell 1
    have y2 := HR.out.cell 2
    have y3 := HR.out.cell 3
    have x0 := HR.out.frozen 0
    have x1 := HR.out.frozen 1
    have x2 := HR.out.frozen 2
    have x3 := HR.out.frozen 3
    go_wp2_with fail
    clear x0 x1 x2 x3 y0 y1 y2 y3
    have hZ := (((HR.out.set_ 0 (.int .i64 0)).set_ 1 (.string ⟨#[]⟩)).set_ 2 (.int .i64 0)).set_ 3 (.slice none 0 0)
    have z0 := hZ.cell 0
    have z1 := hZ.cell 1
    have z2 := hZ.cell 2
    have z3 := hZ.cell 3
    refine bodyPost_ret (v := .tuple #[.agg #[.int .i64 0, .string ⟨#[]⟩, .int .i64 0, .slice none 0 0], .int .i64 (E), .int .i64 ((p : Int))]) (by simp [results, Tryz.results14, go_sem, z0, z1, z2, z3]) rfl ?_
    rw [HPO.out]
    refine ⟨none, 0, rfl, fm0_v _ _, ?_⟩
    exact (((HB.out.setCell (p := ⟨w.heap.size, 0, none⟩) (by dsimp only; omega) _).setCell (p := ⟨w.heap.size, 1, none⟩) (by dsimp only; omega) _).setCell (p := ⟨w.heap.size, 2, none⟩) (by dsimp only; omega) _).setCell (p := ⟨w.heap.size, 3, none⟩) (by dsimp only; omega) _
  · have hl0 : ¬ 20000 < s.data.toList.length := fun h => hbad (.inl h)
    have hlb : lexBad s.data.toList = false := by
      cases h : lexBad s.data.toList with
      | false => rfl
      | true => exact absurd (.inr h) hbad
    obtain ⟨L, hL⟩ : ∃ L, L = lexToks s.data.toList := ⟨_, rfl⟩
    have hT : ToksOk L := by rw [hL]; exact toksOk (by omega) hlb
    have hlo : lexOf s.data.toList = (L, 0, 0) := by unfold lexOf; rw [if_neg hl0, if_neg (by rw [hlb]; decide), hL]
    have HPO : Hid (parseOf s.data.toList = ((finT (rOf L (wholeP (3 * L.length + 3) 0) (.on 0))).1, (finT (rOf L (wholeP (3 * L.length + 3) 0) (.on 0))).2.1, tokPlace L (finT (rOf L (wholeP (3 * L.length + 3) 0) (.on 0))).2.1 (finT (rOf L (wholeP (3 * L.length + 3) 0) (.on 0))).2.2)) := Lib.hid (by
      have e : (lexToks s.data.toList).map ktOf = leftT L 0 := by rw [hL]; rfl
      have e2 : parseT (leftT L 0) = finT (rOf L (wholeP (3 * L.length + 3) 0) (.on 0)) := by
        show finT (wholeP (3 * (leftT L 0).length + 3) 0 (leftT L 0)) = _
        rw [leftT_len, Nat.sub_zero]
        rfl
      unfold parseOf
      rw [if_neg hl0, if_neg (by rw [hlb]; decide), e, ← hL, e2])
    rw [hlo] at hc hv ⊢
    obtain ⟨tb, to, rfl, hrow⟩ := TkRow.of hv hT.pos
    have htb : w0.heap.size ≤ tb := hnew tb to rfl
    have hpos := hT.pos
    have hmany := hT.many
    have htl := hrow.lt
    obtain ⟨pb, hpb⟩ : ∃ pb, pb = w1.heap.size := ⟨_, rfl⟩
    have hbS := stepA w1 (.cells #[.slice (some ⟨tb, to, none⟩) L.length c, .int .i64 0, .bool false, .bool false] 56)
    have hS2 : RsSt (w1.alloc (.cells #[.slice (some ⟨tb, to, none⟩) L.length c, .int .i64 0, .bool false, .bool false] 56)) pb tb to c L (.on 0) 0 false false := by
      refine ⟨?_, ⟨rfl, rfl, rfl⟩, hrow.keep (hbS.block tb hrow.lt) hbS.size, by omega, hpos, hc⟩
      rw [hpb]
      exact Blk.new w1 56 _
    replace HR := Lib.hid (HR.out.below hbS HR.out.lt)
    replace HB : Hid (Below w.heap.size w (w1.alloc (.cells #[.slice (some ⟨tb, to, none⟩) L.length c, .int .i64 0, .bool false, .bool false] 56))) := Lib.hid (HB.out.alloc (by omega) _)
    have HC := Lib.hid ((rparse_all (3 * L.length + 3)).2.2 _ pb tb to c 0 L (.on 0) false false 0 hT hS2 (by decide) (by omega) (by omega))
    have hpbw : w.heap.size < pb := by omega
    have hz2 : (w1.alloc (.cells #[.slice (some ⟨tb, to, none⟩) L.length c, .int .i64 0, .bool false, .bool false] 56)).heap.size = pb + 1 := by rw [hpb]; exact World.size_alloc _ _
    clear hb hbad hl0 hlb hL hlo hc hv hnew hrow hS2 hbS
    go_wp2_with fail
    rw [← hpb]
    generalize w1.alloc (.cells #[.slice (some ⟨tb, to, none⟩) L.length c, .int .i64 0, .bool false, .bool false] 56) = w2 at HR HB HC hz2 ⊢
    refine HC.out.mono ?_
    clear HC hpb
    rintro e w3 ⟨f, Af, cf, k, bad, deep, rfl, hP⟩
    obtain ⟨r, hr⟩ : ∃ r, r = rOf L (wholeP (3 * L.length + 3) 0) (.on 0) := ⟨_, rfl⟩
    rw [← hr] at hP HPO
    clear hr
    have hs3 := hP.g.size
    have hbF := stepA w3 (.cells #[.int .i64 f.kind, .string ⟨f.name.toArray⟩, .int .i64 f.lit, .slice Af f.kids.length cf] 28)
    have HXF := Lib.hid (Blk.new w3 28 #[.int .i64 f.kind, .string ⟨f.name.toArray⟩, .int .i64 f.lit, .slice Af f.kids.length cf])
    have HS := Lib.hid (hP.s.after hbF)
    replace HR := Lib.hid ((HR.out.grown hP.g (by simp; omega)).alloc (.cells #[.int .i64 f.kind, .string ⟨f.name.toArray⟩, .int .i64 f.lit, .slice Af f.kids.length cf] 28))
    replace HB : Hid (Below w.heap.size w (w3.alloc (.cells #[.int .i64 f.kind, .string ⟨f.name.toArray⟩, .int .i64 f.lit, .slice Af f.kids.length cf] 28))) := Lib.hid ((HB.out.grown hP.g (by omega) (fun k hk => by cases hk; omega)).alloc (by omega) _)
    have HV : Hid (FmVQ (w3.alloc (.cells #[.int .i64 f.kind, .string ⟨f.name.toArray⟩, .int .i64 f.lit, .slice Af f.kids.length cf] 28)) (fun q => w.heap.size < q ∧ q < (w3.alloc (.cells #[.int .i64 f.kind, .string ⟨f.name.toArray⟩, .int .i64 f.lit, .slice Af f.kids.length cf] 28)).heap.size) f Af cf) := Lib.hid (hP.v.low (B := w3.heap.size) (fun q hq => by simp only [World.size_alloc]; omega) hbF)
    have HF := Lib.hid hP.f
    obtain ⟨tk, htk⟩ : ∃ tk, L[k]? = some tk := ⟨_, List.getElem?_eq_getElem hP.s.k⟩
    have hkl := hP.s.k
    have hkl' : (k : Int) < (L.length : Int) := by omega
    have hmul : to + k * 3 = to + 3 * k := by omega
    have hmul2 : to + k * 3 + 2 = to + 3 * k + 2 := by omega
    obtain ⟨xf, hxf⟩ : ∃ xf, xf = w3.heap.size := ⟨_, rfl⟩
    have hxfw : w.heap.size < xf := by omega
    have hxfl : xf < (w3.alloc (.cells #[.int .i64 f.kind, .string ⟨f.name.toArray⟩, .int .i64 f.lit, .slice Af f.kids.length cf] 28)).heap.size := by rw [hxf]; simp
    rw [← hxf] at HXF
    have HXX := Lib.hid hxf
    have HTK := Lib.hid htk
    clear hP hbF hs3 htk hz2 hxf
    unfold fmA
    have s3 := Blk.cell HS.out.p 3
    cases deep with
    | true =>
      have HPO' := HPO
      have hi := HS.out.i
      have HE : Hid (r = .bad 2 0) := Lib.hid (by
        cases r with
        | ok f' t => exact absurd hi.2.2 (by decide)
        | bad e m =>
          rcases hi.2 with ⟨h1, _, h3⟩ | ⟨_, h2, _⟩
          · rw [h1, h3]
          · exact absurd h2 (by decide))
      rw [HE.out] at HPO
      rw [finT_bad] at HPO
      clear hi HPO'
      have y0 := HR.out.cell 0
      have y1 := HR.out.cell 1
      have y2 := HR.out.cell 2
      have y3 := HR.out.cell 3
      have x0 := HR.out.frozen 0
      have x1 := HR.out.frozen 1
      have x2 := HR.out.frozen 2
      have x3 := HR.out.frozen 3
      go_wp2_with fail
      clear x0 x1 x2 x3 y0 y1 y2 y3
      have hZ := (((HR.out.set_ 0 (.int .i64 0)).set_ 1 (.string ⟨#[]⟩)).set_ 2 (.int .i64 0)).set_ 3 (.slice none 0 0)
      have z0 := hZ.cell 0
      have z1 := hZ.cell 1
      have z2 := hZ.cell 2
      have z3 := hZ.cell 3
      refine bodyPost_ret (v := .tuple #[.agg #[.int .i64 0, .string ⟨#[]⟩, .int .i64 0, .slice none 0 0], .int .i64 (2), .int .i64 (0)]) (by simp [results, Tryz.results14, go_sem, z0, z1, z2, z3]) rfl ?_
      rw [HPO.out]
      refine ⟨none, 0, rfl, fm0_v _ _, ?_⟩
      exact (((HB.out.setCell (p := ⟨w.heap.size, 0, none⟩) (by dsimp only; omega) _).setCell (p := ⟨w.heap.size, 1, none⟩) (by dsimp only; omega) _).setCell (p := ⟨w.heap.size, 2, none⟩) (by dsimp only; omega) _).setCell (p := ⟨w.heap.size, 3, none⟩) (by dsimp only; omega) _
    | false =>
      have s2 := Blk.cell HS.out.p 2
      cases bad with
      | true =>
        have hi := HS.out.i
        have HE : Hid (r = .bad 41 (L.length - k)) := Lib.hid (by
          cases r with
          | ok f' t => exact absurd hi.2.1 (by decide)
          | bad e m =>
            rcases hi.2 with ⟨_, h2, _⟩ | ⟨h1, _, h3⟩
            · exact absurd h2 (by decide)
            · rw [h1, h3])
        rw [HE.out] at HPO
        rw [finT_bad] at HPO
        have HPL : Hid (tokPlace L 41 (L.length - k) = tk.place) := Lib.hid (by
          unfold tokPlace
          rw [if_pos rfl, show L.length - (L.length - k) = k by omega, HTK.out]
          rfl)
        clear hi HE
        go_wp2_with fail
        clear s2 s3
        generalize w3.alloc (.cells #[.int .i64 f.kind, .string ⟨f.name.toArray⟩, .int .i64 f.lit, .slice Af f.kids.length cf] 28) = w4 at HXF HS HR HB HV hxfl ⊢
        have HSd := Lib.hid (HS.out.after (stepD1 w4))
        refine wp_region_noPanic ?_
        refine wp_region_seq (fun V => V.cell? ⟨pb, 2, none⟩ = some (.bool true)) [0, 1, 2, 3, 4, 5, 6, 7, 8, 9, 10, 11, 12, 13, 14, 15, 16, 17] [0, 1, 2, 3, 4, 5, 6, 7, 8, 9, 10, 11, 12, 13, 14, 15, 16, 17] [] (by kernel_rfl) (by kernel_rfl) rfl (by kernel_rfl) (by kernel_rfl) (fun _ _ _ _ _ h => h) ?_ (fun hSS => ?_)
        · exact Blk.cell HSd.out.p 2
        clear hSS
        (refine wpSeq_mov rfl rfl ?_; intro o ho; simp only [List.getElem?_toArray, List.getElem?_cons_zero, List.getElem?_cons_succ, Option.some.injEq] at ho; subst ho; refine ⟨?_, Or.inl ⟨by rfl, fun W hSW => ?_⟩, ?_⟩; rotate_left; (focus (go_simp; first | done | with_reducible rfl)); try simp only [Act.put, List.setIfInBounds_toArray, List.set_cons_zero, List.set_cons_succ])
        (refine wpSeq_mov rfl rfl ?_; intro o ho; simp only [List.getElem?_toArray, List.getElem?_cons_zero, List.getElem?_cons_succ, Option.some.injEq] at ho; subst ho; refine ⟨?_, Or.inl ⟨by rfl, fun W hSW => ?_⟩, ?_⟩; rotate_left; (focus (go_simp; first | done | with_reducible rfl)); try simp only [Act.put, List.setIfInBounds_toArray, List.set_cons_zero, List.set_cons_succ])
        (refine wpSeq_mov rfl rfl ?_; intro o ho; simp only [List.getElem?_toArray, List.getElem?_cons_zero, List.getElem?_cons_succ, Option.some.injEq] at ho; subst ho; refine ⟨?_, Or.inl ⟨by rfl, fun W hSW => ?_⟩, ?_⟩; rotate_left; (focus (go_simp; first | done | with_reducible rfl)); try simp only [Act.put, List.setIfInBounds_toArray, List.set_cons_zero, List.set_cons_succ])
        (refine wpSeq_mov rfl rfl ?_; intro o ho; simp only [List.getElem?_toArray, List.getElem?_cons_zero, List.getElem?_cons_succ, Option.some.injEq] at ho; subst ho; refine ⟨?_, Or.inl ⟨by rfl, fun W hSW => ?_⟩, ?_⟩; rotate_left; (focus (go_simp; first | done | with_reducible rfl)); try simp only [Act.put, List.setIfInBounds_toArray, List.set_cons_zero, List.set_cons_succ])
        (refine wpSeq_mov rfl rfl ?_; intro o ho; simp only [List.getElem?_toArray, List.getElem?_cons_zero, List.getElem?_cons_succ, Option.some.injEq] at ho; subst ho; refine ⟨?_, Or.inl ⟨by rfl, fun W hSW => ?_⟩, ?_⟩; rotate_left; (focus (go_simp; first | done | with_reducible rfl)); try simp only [Act.put, List.setIfInBounds_toArray, List.set_cons_zero, List.set_cons_succ])
        (refine wpSeq_mov rfl rfl ?_; intro o ho; simp only [List.getElem?_toArray, List.getElem?_cons_zero, List.getElem?_cons_succ, Option.some.injEq] at ho; subst ho; refine ⟨undef, Or.inr ⟨by rfl, rfl⟩, ?_⟩; try simp only [Act.put, List.setIfInBounds_toArray, List.set_cons_zero, List.set_cons_succ])
        (refine wpSeq_mov rfl rfl ?_; intro o ho; simp only [List.getElem?_toArray, List.getElem?_cons_zero, List.getElem?_cons_succ, Option.some.injEq] at ho; subst ho; refine ⟨undef, Or.inr ⟨by rfl, rfl⟩, ?_⟩; try simp only [Act.put, List.setIfInBounds_toArray, List.set_cons_zero, List.set_cons_succ])
        (refine wpSeq_mov rfl rfl ?_; intro o ho; simp only [List.getElem?_toArray, List.getElem?_cons_zero, List.getElem?_cons_succ, Option.some.injEq] at ho; subst ho; refine ⟨undef, Or.inr ⟨by rfl, rfl⟩, ?_⟩; try simp only [Act.put, List.setIfInBounds_toArray, List.set_cons_zero, List.set_cons_succ])
        (refine wpSeq_mov rfl rfl ?_; intro o ho; simp only [List.getElem?_toArray, List.getElem?_cons_zero, List.getElem?_cons_succ, Option.some.injEq] at ho; subst ho; refine ⟨undef, Or.inr ⟨by rfl, rfl⟩, ?_⟩; try simp only [Act.put, List.setIfInBounds_toArray, List.set_cons_zero, List.set_cons_succ])
        (refine wpSeq_mov rfl rfl ?_; intro o ho; simp only [List.getElem?_toArray, List.getElem?_cons_zero, List.getElem?_cons_succ, Option.some.injEq] at ho; subst ho; refine ⟨undef, Or.inr ⟨by rfl, rfl⟩, ?_⟩; try simp only [Act.put, List.setIfInBounds_toArray, List.set_cons_zero, List.set_cons_succ])
        (refine wpSeq_mov rfl rfl ?_; intro o ho; simp only [List.getElem?_toArray, List.getElem?_cons_zero, List.getElem?_cons_succ, Option.some.injEq] at ho; subst ho; refine ⟨undef, Or.inr ⟨by rfl, rfl⟩, ?_⟩; try simp only [Act.put, List.setIfInBounds_toArray, List.set_cons_zero, List.set_cons_succ])
        (refine wpSeq_mov rfl rfl ?_; intro o ho; simp only [List.getElem?_toArray, List.getElem?_cons_zero, List.getElem?_cons_succ, Option.some.injEq] at ho; subst ho; refine ⟨undef, Or.inr ⟨by rfl, rfl⟩, ?_⟩; try simp only [Act.put, List.setIfInBounds_toArray, List.set_cons_zero, List.set_cons_succ])
        (refine wpSeq_mov rfl rfl ?_; intro o ho; simp only [List.getElem?_toArray, List.getElem?_cons_zero, List.getElem?_cons_succ, Option.some.injEq] at ho; subst ho; refine ⟨undef, Or.inr ⟨by rfl, rfl⟩, ?_⟩; try simp only [Act.put, List.setIfInBounds_toArray, List.set_cons_zero, List.set_cons_succ])
        (refine wpSeq_mov rfl rfl ?_; intro o ho; simp only [List.getElem?_toArray, List.getElem?_cons_zero, List.getElem?_cons_succ, Option.some.injEq] at ho; subst ho; refine ⟨undef, Or.inr ⟨by rfl, rfl⟩, ?_⟩; try simp only [Act.put, List.setIfInBounds_toArray, List.set_cons_zero, List.set_cons_succ])
        (refine wpSeq_mov rfl rfl ?_; intro o ho; simp only [List.getElem?_toArray, List.getElem?_cons_zero, List.getElem?_cons_succ, Option.some.injEq] at ho; subst ho; refine ⟨undef, Or.inr ⟨by rfl, rfl⟩, ?_⟩; try simp only [Act.put, List.setIfInBounds_toArray, List.set_cons_zero, List.set_cons_succ])
        (refine wpSeq_mov rfl rfl ?_; intro o ho; simp only [List.getElem?_toArray, List.getElem?_cons_zero, List.getElem?_cons_succ, Option.some.injEq] at ho; subst ho; refine ⟨undef, Or.inr ⟨by rfl, rfl⟩, ?_⟩; try simp only [Act.put, List.setIfInBounds_toArray, List.set_cons_zero, List.set_cons_succ])
        (refine wpSeq_mov rfl rfl ?_; intro o ho; simp only [List.getElem?_toArray, List.getElem?_cons_zero, List.getElem?_cons_succ, Option.some.injEq] at ho; subst ho; refine ⟨undef, Or.inr ⟨by rfl, rfl⟩, ?_⟩; try simp only [Act.put, List.setIfInBounds_toArray, List.set_cons_zero, List.set_cons_succ])
        (refine wpSeq_mov rfl rfl ?_; intro o ho; simp only [List.getElem?_toArray, List.getElem?_cons_zero, List.getElem?_cons_succ, Option.some.injEq] at ho; subst ho; refine ⟨?_, Or.inl ⟨by rfl, fun W hSW => ?_⟩, ?_⟩; rotate_left; (focus (go_simp; first | done | with_reducible rfl)); try simp only [Act.put, List.setIfInBounds_toArray, List.set_cons_zero, List.set_cons_succ])
        refine wpSeq_done ?_
        go_wp2_with fail
        replace HS := HSd
        replace HR := Lib.hid (HR.out.below (stepD1 w4) HR.out.lt)
        replace HB : Hid (Below w.heap.size w w4.drew) := Lib.hid (HB.out.drew)
        clear HSd HXF HV
        generalize w4.drew = w5 at HS HR HB ⊢
        have HSd := Lib.hid (HS.out.after (stepD1 w5))
        refine wp_region_noPanic ?_
        refine wp_region_seq (fun V => V.cell? ⟨pb, 0, none⟩ = some (.slice (some ⟨tb, to, none⟩) L.length c) ∧ V.cell? ⟨pb, 1, none⟩ = some (.int .i64 (k : Int)) ∧ V.cell? ⟨tb, to + 3 * k + 2, none⟩ = some (.int .i64 (tk.place : Int))) [0, 1, 2, 3, 4, 5, 6, 7, 8, 9, 10, 11, 12, 13, 14] [0, 1, 2, 3, 4, 5, 6, 7, 8, 9, 10, 11, 13, 14] [] (by kernel_rfl) (by kernel_rfl) rfl (by kernel_rfl) (by kernel_rfl) (fun _ _ _ _ _ h => h) ?_ (fun hSS => ?_)
        · exact ⟨Blk.cell HSd.out.p 0, Blk.cell HSd.out.p 1, HSd.out.t.place k tk HTK.out⟩
        clear hSS
        replace HS := HSd
        replace HR := Lib.hid (HR.out.below (stepD1 w5) HR.out.lt)
        replace HB : Hid (Below w.heap.size w w5.drew) := Lib.hid (HB.out.drew)
        clear HSd
        generalize w5.drew = w7 at HS HR HB ⊢
        have HSS := Lib.hid ((((HS.out.far (b := w.heap.size) (j := 0) (by omega) (by omega) (.int .i64 0)).far (b := w.heap.size) (j := 1) (by omega) (by omega) (.string ⟨#[]⟩)).far (b := w.heap.size) (j := 2) (by omega) (by omega) (.int .i64 0)).far (b := w.heap.size) (j := 3) (by omega) (by omega) (.slice none 0 0))
        have y0 := HR.out.cell 0
        have y1 := HR.out.cell 1
        have y2 := HR.out.cell 2
        have y3 := HR.out.cell 3
        have x0 := HR.out.frozen 0
        have x1 := HR.out.frozen 1
        have x2 := HR.out.frozen 2
        have x3 := HR.out.frozen 3
        (refine wpSeq_mov rfl rfl ?_; intro o ho; simp only [List.getElem?_toArray, List.getElem?_cons_zero, List.getElem?_cons_succ, Option.some.injEq] at ho; subst ho; refine ⟨?_, Or.inl ⟨by rfl, fun W hSW => ?_⟩, ?_⟩; rotate_left; (focus (go_simp; first | done | with_reducible rfl)); try simp only [Act.put, List.setIfInBounds_toArray, List.set_cons_zero, List.set_cons_succ])
        (refine wpSeq_mov rfl rfl ?_; intro o ho; simp only [List.getElem?_toArray, List.getElem?_cons_zero, List.getElem?_cons_succ, Option.some.injEq] at ho; subst ho; refine ⟨?_, Or.inl ⟨by rfl, fun W hSW => ?_⟩, ?_⟩; rotate_left; (focus (go_simp; first | done | with_reducible rfl)); try simp only [Act.put, List.setIfInBounds_toArray, List.set_cons_zero, List.set_cons_succ])
        (refine wpSeq_mov rfl rfl ?_; intro o ho; simp only [List.getElem?_toArray, List.getElem?_cons_zero, List.getElem?_cons_succ, Option.some.injEq] at ho; subst ho; refine ⟨?_, Or.inl ⟨by rfl, fun W hSW => ?_⟩, ?_⟩; rotate_left; (focus (go_simp; first | done | with_reducible rfl)); try simp only [Act.put, List.setIfInBounds_toArray, List.set_cons_zero, List.set_cons_succ])
        (refine wpSeq_mov rfl rfl ?_; intro o ho; simp only [List.getElem?_toArray, List.getElem?_cons_zero, List.getElem?_cons_succ, Option.some.injEq] at ho; subst ho; refine ⟨?_, Or.inl ⟨by rfl, fun W hSW => ?_⟩, ?_⟩; rotate_left; (focus (go_simp; first | done | with_reducible rfl)); try simp only [Act.put, List.setIfInBounds_toArray, List.set_cons_zero, List.set_cons_succ])
        (refine wpSeq_mov rfl rfl ?_; intro o ho; simp only [List.getElem?_toArray, List.getElem?_cons_zero, List.getElem?_cons_succ, Option.some.injEq] at ho; subst ho; refine ⟨?_, Or.inl ⟨by rfl, fun W hSW => ?_⟩, ?_⟩; rotate_left; (focus (go_simp; first | done | with_reducible rfl)); try simp only [Act.put, List.setIfInBounds_toArray, List.set_cons_zero, List.set_cons_succ])
        (refine wpSeq_mov rfl rfl ?_; intro o ho; simp only [List.getElem?_toArray, List.getElem?_cons_zero, List.getElem?_cons_succ, Option.some.injEq] at ho; subst ho; refine ⟨?_, Or.inl ⟨by rfl, fun W hSW => ?_⟩, ?_⟩; rotate_left; (focus (go_simp; first | done | with_reducible rfl)); try simp only [Act.put, List.setIfInBounds_toArray, List.set_cons_zero, List.set_cons_succ])
        (refine wpSeq_mov rfl rfl ?_; intro o ho; simp only [List.getElem?_toArray, List.getElem?_cons_zero, List.getElem?_cons_succ, Option.some.injEq] at ho; subst ho; refine ⟨?_, Or.inl ⟨by rfl, fun W hSW => ?_⟩, ?_⟩; rotate_left; (focus (go_simp; first | done | with_reducible rfl)); try simp only [Act.put, List.setIfInBounds_toArray, List.set_cons_zero, List.set_cons_succ])
        (refine wpSeq_mov rfl rfl ?_; intro o ho; simp only [List.getElem?_toArray, List.getElem?_cons_zero, List.getElem?_cons_succ, Option.some.injEq] at ho; subst ho; refine ⟨?_, Or.inl ⟨by rfl, fun W hSW => ?_⟩, ?_⟩; rotate_left; (focus (go_simp; first | done | with_reducible rfl)); try simp only [Act.put, List.setIfInBounds_toArray, List.set_cons_zero, List.set_cons_succ])
        (refine wpSeq_mov rfl rfl ?_; intro o ho; simp only [List.getElem?_toArray, List.getElem?_cons_zero, List.getElem?_cons_succ, Option.some.injEq] at ho; subst ho; refine ⟨?_, Or.inl ⟨by rfl, fun W hSW => ?_⟩, ?_⟩; rotate_left; (focus (go_simp; first | done | with_reducible rfl)); try simp only [Act.put, List.setIfInBounds_toArray, List.set_cons_zero, List.set_cons_succ])
        (refine wpSeq_mov rfl rfl ?_; intro o ho; simp only [List.getElem?_toArray, List.getElem?_cons_zero, List.getElem?_cons_succ, Option.some.injEq] at ho; subst ho; refine ⟨?_, Or.inl ⟨by rfl, fun W hSW => ?_⟩, ?_⟩; rotate_left; (focus (go_simp; first | done | with_reducible rfl)); try simp only [Act.put, List.setIfInBounds_toArray, List.set_cons_zero, List.set_cons_succ])
        (refine wpSeq_mov rfl rfl ?_; intro o ho; simp only [List.getElem?_toArray, List.getElem?_cons_zero, List.getElem?_cons_succ, Option.some.injEq] at ho; subst ho; refine ⟨?_, Or.inl ⟨by rfl, fun W hSW => ?_⟩, ?_⟩; rotate_left; (focus (go_simp; first | done | with_reducible rfl)); try simp only [Act.put, List.setIfInBounds_toArray, List.set_cons_zero, List.set_cons_succ])
        (refine wpSeq_mov rfl rfl ?_; intro o ho; simp only [List.getElem?_toArray, List.getElem?_cons_zero, List.getElem?_cons_succ, Option.some.injEq] at ho; subst ho; refine ⟨?_, Or.inl ⟨by rfl, fun W hSW => ?_⟩, ?_⟩; rotate_left; (focus (go_simp; first | done | with_reducible rfl)); try simp only [Act.put, List.setIfInBounds_toArray, List.set_cons_zero, List.set_cons_succ])
        (refine wpSeq_fix rfl rfl ?_; intro o ho; simp only [List.getElem?_toArray, List.getElem?_cons_zero, List.getElem?_cons_succ, Option.some.injEq] at ho; subst ho; intro K hK)
        go_simp
        (refine hK.out _ _ (fun _ => ⟨Blk.cell HSS.out.p 0, Blk.cell HSS.out.p 1, HSS.out.t.place k tk HTK.out⟩) ?_; clear hK K; try simp only [Act.put, List.setIfInBounds_toArray, List.set_cons_zero, List.set_cons_succ])
        (refine wpSeq_mov rfl rfl ?_; intro o ho; simp only [List.getElem?_toArray, List.getElem?_cons_zero, List.getElem?_cons_succ, Option.some.injEq] at ho; subst ho; refine ⟨?_, Or.inl ⟨by rfl, fun W hSW => ?_⟩, ?_⟩; rotate_left; (focus (go_simp; first | done | with_reducible rfl)); try simp only [Act.put, List.setIfInBounds_toArray, List.set_cons_zero, List.set_cons_succ])
        (refine wpSeq_mov rfl rfl ?_; intro o ho; simp only [List.getElem?_toArray, List.getElem?_cons_zero, List.getElem?_cons_succ, Option.some.injEq] at ho; subst ho; refine ⟨?_, Or.inl ⟨by rfl, fun W hSW => ?_⟩, ?_⟩; rotate_left; (focus (go_simp; first | done | with_reducible rfl)); try simp only [Act.put, List.setIfInBounds_toArray, List.set_cons_zero, List.set_cons_succ])
        refine wpSeq_done ?_
        clear x0 x1 x2 x3 y0 y1 y2 y3
        go_wp2_with fail
        rw [HPL.out] at HPO

        have hZ := (((HR.out.set_ 0 (.int .i64 0)).set_ 1 (.string ⟨#[]⟩)).set_ 2 (.int .i64 0)).set_ 3 (.slice none 0 0)
        have z0 := hZ.cell 0
        have z1 := hZ.cell 1
        have z2 := hZ.cell 2
        have z3 := hZ.cell 3
        refine bodyPost_ret (v := .tuple #[.agg #[.int .i64 0, .string ⟨#[]⟩, .int .i64 0, .slice none 0 0], .int .i64 (41), .int .i64 ((tk.place : Int))]) (by simp [results, Tryz.results14, go_sem, z0, z1, z2, z3]) rfl ?_
        rw [HPO.out]
        refine ⟨none, 0, rfl, fm0_v _ _, ?_⟩
        exact (((HB.out.setCell (p := ⟨w.heap.size, 0, none⟩) (by dsimp only; omega) _).setCell (p := ⟨w.heap.size, 1, none⟩) (by dsimp only; omega) _).setCell (p := ⟨w.heap.size, 2, none⟩) (by dsimp only; omega) _).setCell (p := ⟨w.heap.size, 3, none⟩) (by dsimp only; omega) _
      | false =>
        have hi := HS.out.i
        have HE : Hid (r = .ok f (leftT L k)) := Lib.hid (by
          cases r with
          | ok f' t =>
            obtain ⟨h1, h2⟩ := HF.out f' t rfl
            rw [h1, h2]
          | bad e m => exact absurd hi.1 (by decide))
        rw [HE.out] at HPO
        have hhd : (hdT (leftT L k)).1 = tk.kind := by rw [leftT_at HTK.out]; rfl
        rw [finT_ok, hhd, leftT_len] at HPO
        have HPL : Hid (tokPlace L 41 (L.length - k) = tk.place) := Lib.hid (by
          unfold tokPlace
          rw [if_pos rfl, show L.length - (L.length - k) = k by omega, HTK.out]
          rfl)
        clear hi HE hhd
        go_wp2_with fail
        rw [← HXX.out]
        clear s2 s3
        generalize w3.alloc (.cells #[.int .i64 f.kind, .string ⟨f.name.toArray⟩, .int .i64 f.lit, .slice Af f.kids.length cf] 28) = w4 at HXF HS HR HB HV hxfl ⊢
        have HSd := Lib.hid (HS.out.after (stepD1 w4))
        refine wp_region_noPanic ?_
        refine wp_region_seq (fun V => V.cell? ⟨pb, 2, none⟩ = some (.bool false) ∧ V.cell? ⟨pb, 0, none⟩ = some (.slice (some ⟨tb, to, none⟩) L.length c) ∧ V.cell? ⟨pb, 1, none⟩ = some (.int .i64 (k : Int)) ∧ V.cell? ⟨tb, to + 3 * k, none⟩ = some (.int .i64 tk.kind)) [0, 1, 2, 3, 4, 5, 6, 7, 8, 9, 10, 11, 12, 13, 14, 15, 16, 17] [0, 1, 2, 3, 4, 5, 6, 7, 8, 9, 10, 11, 12, 13, 14, 15, 16, 17] [] (by kernel_rfl) (by kernel_rfl) rfl (by kernel_rfl) (by kernel_rfl) (fun _ _ _ _ _ h => h) ?_ (fun hSS => ?_)
        · exact ⟨Blk.cell HSd.out.p 2, Blk.cell HSd.out.p 0, Blk.cell HSd.out.p 1, HSd.out.t.kind k tk HTK.out⟩
        clear hSS
        replace HS := HSd
        replace HR := Lib.hid (HR.out.below (stepD1 w4) HR.out.lt)
        replace HB : Hid (Below w.heap.size w w4.drew) := Lib.hid (HB.out.drew)
        replace HXF := Lib.hid (HXF.out.below (stepD1 w4) hxfl)
        replace HV : Hid (FmVQ w4.drew (fun q => w.heap.size < q ∧ q < w4.drew.heap.size) f Af cf) := Lib.hid (HV.out.low (B := w4.heap.size) (fun q hq => ⟨hq.2, hq⟩) (stepD1 w4))
        clear HSd
        have hxfl' : xf < w4.drew.heap.size := hxfl
        clear hxfl
        generalize w4.drew = w5 at HS HR HB HXF HV hxfl' ⊢
        by_cases hk : tk.kind = 0
        · have hk0 : (tk.kind == 0) = true := by simp [hk]
          have hk1 : (tk.kind != 0) = false := by simp [hk]
          rw [if_neg (by simp [hk])] at HPO
          clear hk
          (refine wpSeq_mov rfl rfl ?_; intro o ho; simp only [List.getElem?_toArray, List.getElem?_cons_zero, List.getElem?_cons_succ, Option.some.injEq] at ho; subst ho; refine ⟨?_, Or.inl ⟨by rfl, fun W hSW => ?_⟩, ?_⟩; rotate_left; (focus (go_simp; first | done | with_reducible rfl)); try simp only [Act.put, List.setIfInBounds_toArray, List.set_cons_zero, List.set_cons_succ])
          (refine wpSeq_mov rfl rfl ?_; intro o ho; simp only [List.getElem?_toArray, List.getElem?_cons_zero, List.getElem?_cons_succ, Option.some.injEq] at ho; subst ho; refine ⟨?_, Or.inl ⟨by rfl, fun W hSW => ?_⟩, ?_⟩; rotate_left; (focus (go_simp; first | done | with_reducible rfl)); try simp only [Act.put, List.setIfInBounds_toArray, List.set_cons_zero, List.set_cons_succ])
          (refine wpSeq_mov rfl rfl ?_; intro o ho; simp only [List.getElem?_toArray, List.getElem?_cons_zero, List.getElem?_cons_succ, Option.some.injEq] at ho; subst ho; refine ⟨?_, Or.inl ⟨by rfl, fun W hSW => ?_⟩, ?_⟩; rotate_left; (focus (go_simp; first | done | with_reducible rfl)); try simp only [Act.put, List.setIfInBounds_toArray, List.set_cons_zero, List.set_cons_succ])
          (refine wpSeq_mov rfl rfl ?_; intro o ho; simp only [List.getElem?_toArray, List.getElem?_cons_zero, List.getElem?_cons_succ, Option.some.injEq] at ho; subst ho; refine ⟨?_, Or.inl ⟨by rfl, fun W hSW => ?_⟩, ?_⟩; rotate_left; (focus (go_simp; first | done | with_reducible rfl)); try simp only [Act.put, List.setIfInBounds_toArray, List.set_cons_zero, List.set_cons_succ])
          (refine wpSeq_mov rfl rfl ?_; intro o ho; simp only [List.getElem?_toArray, List.getElem?_cons_zero, List.getElem?_cons_succ, Option.some.injEq] at ho; subst ho; refine ⟨?_, Or.inl ⟨by rfl, fun W hSW => ?_⟩, ?_⟩; rotate_left; (focus (go_simp; first | done | with_reducible rfl)); try simp only [Act.put, List.setIfInBounds_toArray, List.set_cons_zero, List.set_cons_succ])
          (refine wpSeq_mov rfl rfl ?_; intro o ho; simp only [List.getElem?_toArray, List.getElem?_cons_zero, List.getElem?_cons_succ, Option.some.injEq] at ho; subst ho; refine ⟨?_, Or.inl ⟨by rfl, fun W hSW => ?_⟩, ?_⟩; rotate_left; (focus (go_simp; first | done | with_reducible rfl)); try simp only [Act.put, List.setIfInBounds_toArray, List.set_cons_zero, List.set_cons_succ])
          (refine wpSeq_mov rfl rfl ?_; intro o ho; simp only [List.getElem?_toArray, List.getElem?_cons_zero, List.getElem?_cons_succ, Option.some.injEq] at ho; subst ho; refine ⟨?_, Or.inl ⟨by rfl, fun W hSW => ?_⟩, ?_⟩; rotate_left; (focus (go_simp; first | done | with_reducible rfl)); try simp only [Act.put, List.setIfInBounds_toArray, List.set_cons_zero, List.set_cons_succ])
          (refine wpSeq_mov rfl rfl ?_; intro o ho; simp only [List.getElem?_toArray, List.getElem?_cons_zero, List.getElem?_cons_succ, Option.some.injEq] at ho; subst ho; refine ⟨?_, Or.inl ⟨by rfl, fun W hSW => ?_⟩, ?_⟩; rotate_left; (focus (go_simp; first | done | with_reducible rfl)); try simp only [Act.put, List.setIfInBounds_toArray, List.set_cons_zero, List.set_cons_succ])
          (refine wpSeq_mov rfl rfl ?_; intro o ho; simp only [List.getElem?_toArray, List.getElem?_cons_zero, List.getElem?_cons_succ, Option.some.injEq] at ho; subst ho; refine ⟨?_, Or.inl ⟨by rfl, fun W hSW => ?_⟩, ?_⟩; rotate_left; (focus (go_simp; first | done | with_reducible rfl)); try simp only [Act.put, List.setIfInBounds_toArray, List.set_cons_zero, List.set_cons_succ])
          (refine wpSeq_mov rfl rfl ?_; intro o ho; simp only [List.getElem?_toArray, List.getElem?_cons_zero, List.getElem?_cons_succ, Option.some.injEq] at ho; subst ho; refine ⟨?_, Or.inl ⟨by rfl, fun W hSW => ?_⟩, ?_⟩; rotate_left; (focus (go_simp; first | done | with_reducible rfl)); try simp only [Act.put, List.setIfInBounds_toArray, List.set_cons_zero, List.set_cons_succ])
          (refine wpSeq_mov rfl rfl ?_; intro o ho; simp only [List.getElem?_toArray, List.getElem?_cons_zero, List.getElem?_cons_succ, Option.some.injEq] at ho; subst ho; refine ⟨?_, Or.inl ⟨by rfl, fun W hSW => ?_⟩, ?_⟩; rotate_left; (focus (go_simp; first | done | with_reducible rfl)); try simp only [Act.put, List.setIfInBounds_toArray, List.set_cons_zero, List.set_cons_succ])
          (refine wpSeq_mov rfl rfl ?_; intro o ho; simp only [List.getElem?_toArray, List.getElem?_cons_zero, List.getElem?_cons_succ, Option.some.injEq] at ho; subst ho; refine ⟨?_, Or.inl ⟨by rfl, fun W hSW => ?_⟩, ?_⟩; rotate_left; (focus (go_simp; first | done | with_reducible rfl)); try simp only [Act.put, List.setIfInBounds_toArray, List.set_cons_zero, List.set_cons_succ])
          (refine wpSeq_mov rfl rfl ?_; intro o ho; simp only [List.getElem?_toArray, List.getElem?_cons_zero, List.getElem?_cons_succ, Option.some.injEq] at ho; subst ho; refine ⟨?_, Or.inl ⟨by rfl, fun W hSW => ?_⟩, ?_⟩; rotate_left; (focus (go_simp; first | done | with_reducible rfl)); try simp only [Act.put, List.setIfInBounds_toArray, List.set_cons_zero, List.set_cons_succ])
          (refine wpSeq_mov rfl rfl ?_; intro o ho; simp only [List.getElem?_toArray, List.getElem?_cons_zero, List.getElem?_cons_succ, Option.some.injEq] at ho; subst ho; refine ⟨?_, Or.inl ⟨by rfl, fun W hSW => ?_⟩, ?_⟩; rotate_left; (focus (go_simp; first | done | with_reducible rfl)); try simp only [Act.put, List.setIfInBounds_toArray, List.set_cons_zero, List.set_cons_succ])
          (refine wpSeq_mov rfl rfl ?_; intro o ho; simp only [List.getElem?_toArray, List.getElem?_cons_zero, List.getElem?_cons_succ, Option.some.injEq] at ho; subst ho; refine ⟨?_, Or.inl ⟨by rfl, fun W hSW => ?_⟩, ?_⟩; rotate_left; (focus (go_simp; first | done | with_reducible rfl)); try simp only [Act.put, List.setIfInBounds_toArray, List.set_cons_zero, List.set_cons_succ])
          (refine wpSeq_mov rfl rfl ?_; intro o ho; simp only [List.getElem?_toArray, List.getElem?_cons_zero, List.getElem?_cons_succ, Option.some.injEq] at ho; subst ho; refine ⟨?_, Or.inl ⟨by rfl, fun W hSW => ?_⟩, ?_⟩; rotate_left; (focus (go_simp; first | done | with_reducible rfl)); try simp only [Act.put, List.setIfInBounds_toArray, List.set_cons_zero, List.set_cons_succ])
          (refine wpSeq_mov rfl rfl ?_; intro o ho; simp only [List.getElem?_toArray, List.getElem?_cons_zero, List.getElem?_cons_succ, Option.some.injEq] at ho; subst ho; refine ⟨?_, Or.inl ⟨by rfl, fun W hSW => ?_⟩, ?_⟩; rotate_left; (focus (go_simp; first | done | with_reducible rfl)); try simp only [Act.put, List.setIfInBounds_toArray, List.set_cons_zero, List.set_cons_succ])
          (refine wpSeq_mov rfl rfl ?_; intro o ho; simp only [List.getElem?_toArray, List.getElem?_cons_zero, List.getElem?_cons_succ, Option.some.injEq] at ho; subst ho; refine ⟨?_, Or.inl ⟨by rfl, fun W hSW => ?_⟩, ?_⟩; rotate_left; (focus (go_simp; first | done | with_reducible rfl)); try simp only [Act.put, List.setIfInBounds_toArray, List.set_cons_zero, List.set_cons_succ])
          refine wpSeq_done ?_
          have hV5 : FmV w5 w5.heap.size f Af cf := HV.out.v (fun q hq => hq.2)
          have HRT := Lib.hid (rfright_any f Af cf w5 hV5)
          unfold fmA at HRT
          have g0 := HXF.out.cell 0
          have g1 := HXF.out.cell 1
          have g2 := HXF.out.cell 2
          have g3 := HXF.out.cell 3
          clear hV5
          go_wp2_with fail
          refine HRT.out.mono ?_
          clear HRT g0 g1 g2 g3
          rintro e w6 ⟨rfl, hb6⟩
          have hX6 := HXF.out.below hb6 hxfl'
          have g0 := hX6.cell 0
          have g1 := hX6.cell 1
          have g2 := hX6.cell 2
          have g3 := hX6.cell 3
          replace HR := Lib.hid (HR.out.below hb6 HR.out.lt)
          replace HB : Hid (Below w.heap.size w w6) := Lib.hid (step2' HB.out hb6)
          have HV6 : Hid (FmVQ w6 (fun q => w.heap.size < q ∧ q < w6.heap.size) f Af cf) := Lib.hid (HV.out.low (B := w5.heap.size) (fun q hq => ⟨hq.2, hq.1, Nat.lt_of_lt_of_le hq.2 hb6.size⟩) hb6)
          clear hb6 hX6
          have y0 := HR.out.cell 0
          have y1 := HR.out.cell 1
          have y2 := HR.out.cell 2
          have y3 := HR.out.cell 3
          have x0 := HR.out.frozen 0
          have x1 := HR.out.frozen 1
          have x2 := HR.out.frozen 2
          have x3 := HR.out.frozen 3
          cases hok : f.ok with
          | false =>
            rw [hok] at HPO
            rw [if_neg (by decide)] at HPO
            clear hok
            go_wp2_with fail
            clear x0 x1 x2 x3 y0 y1 y2 y3
            have hZ := (((HR.out.set_ 0 (.int .i64 0)).set_ 1 (.string ⟨#[]⟩)).set_ 2 (.int .i64 0)).set_ 3 (.slice none 0 0)
            have z0 := hZ.cell 0
            have z1 := hZ.cell 1
            have z2 := hZ.cell 2
            have z3 := hZ.cell 3
            refine bodyPost_ret (v := .tuple #[.agg #[.int .i64 0, .string ⟨#[]⟩, .int .i64 0, .slice none 0 0], .int .i64 (2), .int .i64 (0)]) (by simp [results, Tryz.results14, go_sem, z0, z1, z2, z3]) rfl ?_
            rw [HPO.out]
            refine ⟨none, 0, rfl, fm0_v _ _, ?_⟩
            exact (((HB.out.setCell (p := ⟨w.heap.size, 0, none⟩) (by dsimp only; omega) _).setCell (p := ⟨w.heap.size, 1, none⟩) (by dsimp only; omega) _).setCell (p := ⟨w.heap.size, 2, none⟩) (by dsimp only; omega) _).setCell (p := ⟨w.heap.size, 3, none⟩) (by dsimp only; omega) _
          | true =>
            rw [hok] at HPO
            rw [if_pos rfl] at HPO
            clear hok
            go_wp2_with fail
            clear x0 x1 x2 x3 y0 y1 y2 y3
            have HVV : Hid (FmV ((((w6.setCell ⟨w.heap.size, 0, none⟩ (.int .i64 f.kind)).setCell ⟨w.heap.size, 1, none⟩ (.string ⟨f.name.toArray⟩)).setCell ⟨w.heap.size, 2, none⟩ (.int .i64 f.lit)).setCell ⟨w.heap.size, 3, none⟩ (.slice Af f.kids.length cf)) ((((w6.setCell ⟨w.heap.size, 0, none⟩ (.int .i64 f.kind)).setCell ⟨w.heap.size, 1, none⟩ (.string ⟨f.name.toArray⟩)).setCell ⟨w.heap.size, 2, none⟩ (.int .i64 f.lit)).setCell ⟨w.heap.size, 3, none⟩ (.slice Af f.kids.length cf)).heap.size f Af cf) := Lib.hid (by
              have hq : ∀ b, (w.heap.size < b ∧ b < w6.heap.size) → b ≠ w.heap.size := fun b h => by omega
              refine (((((HV6.out.far (i := 0) hq _).far (i := 1) hq _).far (i := 2) hq _).far (i := 3) hq _)).v (fun b hb => ?_)
              simp only [World.setCell, Array.size_modify]
              exact hb.2)
            have hZ := (((HR.out.set_ 0 (.int .i64 f.kind)).set_ 1 (.string ⟨f.name.toArray⟩)).set_ 2 (.int .i64 f.lit)).set_ 3 (.slice Af f.kids.length cf)
            have z0 := hZ.cell 0
            have z1 := hZ.cell 1
            have z2 := hZ.cell 2
            have z3 := hZ.cell 3
            refine bodyPost_ret (v := .tuple #[.agg #[.int .i64 f.kind, .string ⟨f.name.toArray⟩, .int .i64 f.lit, .slice Af f.kids.length cf], .int .i64 (0), .int .i64 (0)]) (by simp [results, Tryz.results14, go_sem, z0, z1, z2, z3]) rfl ?_
            rw [HPO.out]
            refine ⟨Af, cf, rfl, HVV.out, ?_⟩
            exact (((HB.out.setCell (p := ⟨w.heap.size, 0, none⟩) (by dsimp only; omega) _).setCell (p := ⟨w.heap.size, 1, none⟩) (by dsimp only; omega) _).setCell (p := ⟨w.heap.size, 2, none⟩) (by dsimp only; omega) _).setCell (p := ⟨w.heap.size, 3, none⟩) (by dsimp only; omega) _
        · have hk0 : (tk.kind == 0) = false := by simp [hk]
          have hk1 : (tk.kind != 0) = true := by simp [hk]
          rw [if_pos (by simp [hk])] at HPO
          clear hk
          (refine wpSeq_mov rfl rfl ?_; intro o ho; simp only [List.getElem?_toArray, List.getElem?_cons_zero, List.getElem?_cons_succ, Option.some.injEq] at ho; subst ho; refine ⟨?_, Or.inl ⟨by rfl, fun W hSW => ?_⟩, ?_⟩; rotate_left; (focus (go_simp; first | done | with_reducible rfl)); try simp only [Act.put, List.setIfInBounds_toArray, List.set_cons_zero, List.set_cons_succ])
          (refine wpSeq_mov rfl rfl ?_; intro o ho; simp only [List.getElem?_toArray, List.getElem?_cons_zero, List.getElem?_cons_succ, Option.some.injEq] at ho; subst ho; refine ⟨?_, Or.inl ⟨by rfl, fun W hSW => ?_⟩, ?_⟩; rotate_left; (focus (go_simp; first | done | with_reducible rfl)); try simp only [Act.put, List.setIfInBounds_toArray, List.set_cons_zero, List.set_cons_succ])
          (refine wpSeq_mov rfl rfl ?_; intro o ho; simp only [List.getElem?_toArray, List.getElem?_cons_zero, List.getElem?_cons_succ, Option.some.injEq] at ho; subst ho; refine ⟨?_, Or.inl ⟨by rfl, fun W hSW => ?_⟩, ?_⟩; rotate_left; (focus (go_simp; first | done | with_reducible rfl)); try simp only [Act.put, List.setIfInBounds_toArray, List.set_cons_zero, List.set_cons_succ])
          (refine wpSeq_mov rfl rfl ?_; intro o ho; simp only [List.getElem?_toArray, List.getElem?_cons_zero, List.getElem?_cons_succ, Option.some.injEq] at ho; subst ho; refine ⟨?_, Or.inl ⟨by rfl, fun W hSW => ?_⟩, ?_⟩; rotate_left; (focus (go_simp; first | done | with_reducible rfl)); try simp only [Act.put, List.setIfInBounds_toArray, List.set_cons_zero, List.set_cons_succ])
          (refine wpSeq_mov rfl rfl ?_; intro o ho; simp only [List.getElem?_toArray, List.getElem?_cons_zero, List.getElem?_cons_succ, Option.some.injEq] at ho; subst ho; refine ⟨?_, Or.inl ⟨by rfl, fun W hSW => ?_⟩, ?_⟩; rotate_left; (focus (go_simp; first | done | with_reducible rfl)); try simp only [Act.put, List.setIfInBounds_toArray, List.set_cons_zero, List.set_cons_succ])
          (refine wpSeq_mov rfl rfl ?_; intro o ho; simp only [List.getElem?_toArray, List.getElem?_cons_zero, List.getElem?_cons_succ, Option.some.injEq] at ho; subst ho; refine ⟨?_, Or.inl ⟨by rfl, fun W hSW => ?_⟩, ?_⟩; rotate_left; (focus (go_simp; first | done | with_reducible rfl)); try simp only [Act.put, List.setIfInBounds_toArray, List.set_cons_zero, List.set_cons_succ])
          (refine wpSeq_mov rfl rfl ?_; intro o ho; simp only [List.getElem?_toArray, List.getElem?_cons_zero, List.getElem?_cons_succ, Option.some.injEq] at ho; subst ho; refine ⟨?_, Or.inl ⟨by rfl, fun W hSW => ?_⟩, ?_⟩; rotate_left; (focus (go_simp; first | done | with_reducible rfl)); try simp only [Act.put, List.setIfInBounds_toArray, List.set_cons_zero, List.set_cons_succ])
          (refine wpSeq_mov rfl rfl ?_; intro o ho; simp only [List.getElem?_toArray, List.getElem?_cons_zero, List.getElem?_cons_succ, Option.some.injEq] at ho; subst ho; refine ⟨?_, Or.inl ⟨by rfl, fun W hSW => ?_⟩, ?_⟩; rotate_left; (focus (go_simp; first | done | with_reducible rfl)); try simp only [Act.put, List.setIfInBounds_toArray, List.set_cons_zero, List.set_cons_succ])
          (refine wpSeq_mov rfl rfl ?_; intro o ho; simp only [List.getElem?_toArray, List.getElem?_cons_zero, List.getElem?_cons_succ, Option.some.injEq] at ho; subst ho; refine ⟨?_, Or.inl ⟨by rfl, fun W hSW => ?_⟩, ?_⟩; rotate_left; (focus (go_simp; first | done | with_reducible rfl)); try simp only [Act.put, List.setIfInBounds_toArray, List.set_cons_zero, List.set_cons_succ])
          (refine wpSeq_mov rfl rfl ?_; intro o ho; simp only [List.getElem?_toArray, List.getElem?_cons_zero, List.getElem?_cons_succ, Option.some.injEq] at ho; subst ho; refine ⟨?_, Or.inl ⟨by rfl, fun W hSW => ?_⟩, ?_⟩; rotate_left; (focus (go_simp; first | done | with_reducible rfl)); try simp only [Act.put, List.setIfInBounds_toArray, List.set_cons_zero, List.set_cons_succ])
          (refine wpSeq_mov rfl rfl ?_; intro o ho; simp only [List.getElem?_toArray, List.getElem?_cons_zero, List.getElem?_cons_succ, Option.some.injEq] at ho; subst ho; refine ⟨?_, Or.inl ⟨by rfl, fun W hSW => ?_⟩, ?_⟩; rotate_left; (focus (go_simp; first | done | with_reducible rfl)); try simp only [Act.put, List.setIfInBounds_toArray, List.set_cons_zero, List.set_cons_succ])
          (refine wpSeq_mov rfl rfl ?_; intro o ho; simp only [List.getElem?_toArray, List.getElem?_cons_zero, List.getElem?_cons_succ, Option.some.injEq] at ho; subst ho; refine ⟨?_, Or.inl ⟨by rfl, fun W hSW => ?_⟩, ?_⟩; rotate_left; (focus (go_simp; first | done | with_reducible rfl)); try simp only [Act.put, List.setIfInBounds_toArray, List.set_cons_zero, List.set_cons_succ])
          (refine wpSeq_mov rfl rfl ?_; intro o ho; simp only [List.getElem?_toArray, List.getElem?_cons_zero, List.getElem?_cons_succ, Option.some.injEq] at ho; subst ho; refine ⟨?_, Or.inl ⟨by rfl, fun W hSW => ?_⟩, ?_⟩; rotate_left; (focus (go_simp; first | done | with_reducible rfl)); try simp only [Act.put, List.setIfInBounds_toArray, List.set_cons_zero, List.set_cons_succ])
          (refine wpSeq_mov rfl rfl ?_; intro o ho; simp only [List.getElem?_toArray, List.getElem?_cons_zero, List.getElem?_cons_succ, Option.some.injEq] at ho; subst ho; refine ⟨?_, Or.inl ⟨by rfl, fun W hSW => ?_⟩, ?_⟩; rotate_left; (focus (go_simp; first | done | with_reducible rfl)); try simp only [Act.put, List.setIfInBounds_toArray, List.set_cons_zero, List.set_cons_succ])
          (refine wpSeq_mov rfl rfl ?_; intro o ho; simp only [List.getElem?_toArray, List.getElem?_cons_zero, List.getElem?_cons_succ, Option.some.injEq] at ho; subst ho; refine ⟨?_, Or.inl ⟨by rfl, fun W hSW => ?_⟩, ?_⟩; rotate_left; (focus (go_simp; first | done | with_reducible rfl)); try simp only [Act.put, List.setIfInBounds_toArray, List.set_cons_zero, List.set_cons_succ])
          (refine wpSeq_mov rfl rfl ?_; intro o ho; simp only [List.getElem?_toArray, List.getElem?_cons_zero, List.getElem?_cons_succ, Option.some.injEq] at ho; subst ho; refine ⟨?_, Or.inl ⟨by rfl, fun W hSW => ?_⟩, ?_⟩; rotate_left; (focus (go_simp; first | done | with_reducible rfl)); try simp only [Act.put, List.setIfInBounds_toArray, List.set_cons_zero, List.set_cons_succ])
          (refine wpSeq_mov rfl rfl ?_; intro o ho; simp only [List.getElem?_toArray, List.getElem?_cons_zero, List.getElem?_cons_succ, Option.some.injEq] at ho; subst ho; refine ⟨?_, Or.inl ⟨by rfl, fun W hSW => ?_⟩, ?_⟩; rotate_left; (focus (go_simp; first | done | with_reducible rfl)); try simp only [Act.put, List.setIfInBounds_toArray, List.set_cons_zero, List.set_cons_succ])
          (refine wpSeq_mov rfl rfl ?_; intro o ho; simp only [List.getElem?_toArray, List.getElem?_cons_zero, List.getElem?_cons_succ, Option.some.injEq] at ho; subst ho; refine ⟨?_, Or.inl ⟨by rfl, fun W hSW => ?_⟩, ?_⟩; rotate_left; (focus (go_simp; first | done | with_reducible rfl)); try simp only [Act.put, List.setIfInBounds_toArray, List.set_cons_zero, List.set_cons_succ])
          refine wpSeq_done ?_
          go_wp2_with fail
          have HSd := Lib.hid (HS.out.after (stepD1 w5))
          refine wp_region_noPanic ?_
          refine wp_region_seq (fun V => V.cell? ⟨pb, 0, none⟩ = some (.slice (some ⟨tb, to, none⟩) L.length c) ∧ V.cell? ⟨pb, 1, none⟩ = some (.int .i64 (k : Int)) ∧ V.cell? ⟨tb, to + 3 * k + 2, none⟩ = some (.int .i64 (tk.place : Int))) [0, 1, 2, 3, 4, 5, 6, 7, 8, 9, 10, 11, 12, 13, 14] [0, 1, 2, 3, 4, 5, 6, 7, 8, 9, 10, 11, 13, 14] [] (by kernel_rfl) (by kernel_rfl) rfl (by kernel_rfl) (by kernel_rfl) (fun _ _ _ _ _ h => h) ?_ (fun hSS => ?_)
          · exact ⟨Blk.cell HSd.out.p 0, Blk.cell HSd.out.p 1, HSd.out.t.place k tk HTK.out⟩
          clear hSS
          replace HS := HSd
          replace HR := Lib.hid (HR.out.below (stepD1 w5) HR.out.lt)
          replace HB : Hid (Below w.heap.size w w5.drew) := Lib.hid (HB.out.drew)
          clear HSd
          generalize w5.drew = w7 at HS HR HB ⊢
          have HSS := Lib.hid ((((HS.out.far (b := w.heap.size) (j := 0) (by omega) (by omega) (.int .i64 0)).far (b := w.heap.size) (j := 1) (by omega) (by omega) (.string ⟨#[]⟩)).far (b := w.heap.size) (j := 2) (by omega) (by omega) (.int .i64 0)).far (b := w.heap.size) (j := 3) (by omega) (by omega) (.slice none 0 0))
          have y0 := HR.out.cell 0
          have y1 := HR.out.cell 1
          have y2 := HR.out.cell 2
          have y3 := HR.out.cell 3
          have x0 := HR.out.frozen 0
          have x1 := HR.out.frozen 1
          have x2 := HR.out.frozen 2
          have x3 := HR.out.frozen 3
          (refine wpSeq_mov rfl rfl ?_; intro o ho; simp only [List.getElem?_toArray, List.getElem?_cons_zero, List.getElem?_cons_succ, Option.some.injEq] at ho; subst ho; refine ⟨?_, Or.inl ⟨by rfl, fun W hSW => ?_⟩, ?_⟩; rotate_left; (focus (go_simp; first | done | with_reducible rfl)); try simp only [Act.put, List.setIfInBounds_toArray, List.set_cons_zero, List.set_cons_succ])
          (refine wpSeq_mov rfl rfl ?_; intro o ho; simp only [List.getElem?_toArray, List.getElem?_cons_zero, List.getElem?_cons_succ, Option.some.injEq] at ho; subst ho; refine ⟨?_, Or.inl ⟨by rfl, fun W hSW => ?_⟩, ?_⟩; rotate_left; (focus (go_simp; first | done | with_reducible rfl)); try simp only [Act.put, List.setIfInBounds_toArray, List.set_cons_zero, List.set_cons_succ])
          (refine wpSeq_mov rfl rfl ?_; intro o ho; simp only [List.getElem?_toArray, List.getElem?_cons_zero, List.getElem?_cons_succ, Option.some.injEq] at ho; subst ho; refine ⟨?_, Or.inl ⟨by rfl, fun W hSW => ?_⟩, ?_⟩; rotate_left; (focus (go_simp; first | done | with_reducible rfl)); try simp only [Act.put, List.setIfInBounds_toArray, List.set_cons_zero, List.set_cons_succ])
          (refine wpSeq_mov rfl rfl ?_; intro o ho; simp only [List.getElem?_toArray, List.getElem?_cons_zero, List.getElem?_cons_succ, Option.some.injEq] at ho; subst ho; refine ⟨?_, Or.inl ⟨by rfl, fun W hSW => ?_⟩, ?_⟩; rotate_left; (focus (go_simp; first | done | with_reducible rfl)); try simp only [Act.put, List.setIfInBounds_toArray, List.set_cons_zero, List.set_cons_succ])
          (refine wpSeq_mov rfl rfl ?_; intro o ho; simp only [List.getElem?_toArray, List.getElem?_cons_zero, List.getElem?_cons_succ, Option.some.injEq] at ho; subst ho; refine ⟨?_, Or.inl ⟨by rfl, fun W hSW => ?_⟩, ?_⟩; rotate_left; (focus (go_simp; first | done | with_reducible rfl)); try simp only [Act.put, List.setIfInBounds_toArray, List.set_cons_zero, List.set_cons_succ])
          (refine wpSeq_mov rfl rfl ?_; intro o ho; simp only [List.getElem?_toArray, List.getElem?_cons_zero, List.getElem?_cons_succ, Option.some.injEq] at ho; subst ho; refine ⟨?_, Or.inl ⟨by rfl, fun W hSW => ?_⟩, ?_⟩; rotate_left; (focus (go_simp; first | done | with_reducible rfl)); try simp only [Act.put, List.setIfInBounds_toArray, List.set_cons_zero, List.set_cons_succ])
          (refine wpSeq_mov rfl rfl ?_; intro o ho; simp only [List.getElem?_toArray, List.getElem?_cons_zero, List.getElem?_cons_succ, Option.some.injEq] at ho; subst ho; refine ⟨?_, Or.inl ⟨by rfl, fun W hSW => ?_⟩, ?_⟩; rotate_left; (focus (go_simp; first | done | with_reducible rfl)); try simp only [Act.put, List.setIfInBounds_toArray, List.set_cons_zero, List.set_cons_succ])
          (refine wpSeq_mov rfl rfl ?_; intro o ho; simp only [List.getElem?_toArray, List.getElem?_cons_zero, List.getElem?_cons_succ, Option.some.injEq] at ho; subst ho; refine ⟨?_, Or.inl ⟨by rfl, fun W hSW => ?_⟩, ?_⟩; rotate_left; (focus (go_simp; first | done | with_reducible rfl)); try simp only [Act.put, List.setIfInBounds_toArray, List.set_cons_zero, List.set_cons_succ])
          (refine wpSeq_mov rfl rfl ?_; intro o ho; simp only [List.getElem?_toArray, List.getElem?_cons_zero, List.getElem?_cons_succ, Option.some.injEq] at ho; subst ho; refine ⟨?_, Or.inl ⟨by rfl, fun W hSW => ?_⟩, ?_⟩; rotate_left; (focus (go_simp; first | done | with_reducible rfl)); try simp only [Act.put, List.setIfInBounds_toArray, List.set_cons_zero, List.set_cons_succ])
          (refine wpSeq_mov rfl rfl ?_; intro o ho; simp only [List.getElem?_toArray, List.getElem?_cons_zero, List.getElem?_cons_succ, Option.some.injEq] at ho; subst ho; refine ⟨?_, Or.inl ⟨by rfl, fun W hSW => ?_⟩, ?_⟩; rotate_left; (focus (go_simp; first | done | with_reducible rfl)); try simp only [Act.put, List.setIfInBounds_toArray, List.set_cons_zero, List.set_cons_succ])
          (refine wpSeq_mov rfl rfl ?_; intro o ho; simp only [List.getElem?_toArray, List.getElem?_cons_zero, List.getElem?_cons_succ, Option.some.injEq] at ho; subst ho; refine ⟨?_, Or.inl ⟨by rfl, fun W hSW => ?_⟩, ?_⟩; rotate_left; (focus (go_simp; first | done | with_reducible rfl)); try simp only [Act.put, List.setIfInBounds_toArray, List.set_cons_zero, List.set_cons_succ])
          (refine wpSeq_mov rfl rfl ?_; intro o ho; simp only [List.getElem?_toArray, List.getElem?_cons_zero, List.getElem?_cons_succ, Option.some.injEq] at ho; subst ho; refine ⟨?_, Or.inl ⟨by rfl, fun W hSW => ?_⟩, ?_⟩; rotate_left; (focus (go_simp; first | done | with_reducible rfl)); try simp only [Act.put, List.setIfInBounds_toArray, List.set_cons_zero, List.set_cons_succ])
          (refine wpSeq_fix rfl rfl ?_; intro o ho; simp only [List.getElem?_toArray, List.getElem?_cons_zero, List.getElem?_cons_succ, Option.some.injEq] at ho; subst ho; intro K hK)
          go_simp
          (refine hK.out _ _ (fun _ => ⟨Blk.cell HSS.out.p 0, Blk.cell HSS.out.p 1, HSS.out.t.place k tk HTK.out⟩) ?_; clear hK K; try simp only [Act.put, List.setIfInBounds_toArray, List.set_cons_zero, List.set_cons_succ])
          (refine wpSeq_mov rfl rfl ?_; intro o ho; simp only [List.getElem?_toArray, List.getElem?_cons_zero, List.getElem?_cons_succ, Option.some.injEq] at ho; subst ho; refine ⟨?_, Or.inl ⟨by rfl, fun W hSW => ?_⟩, ?_⟩; rotate_left; (focus (go_simp; first | done | with_reducible rfl)); try simp only [Act.put, List.setIfInBounds_toArray, List.set_cons_zero, List.set_cons_succ])
          (refine wpSeq_mov rfl rfl ?_; intro o ho; simp only [List.getElem?_toArray, List.getElem?_cons_zero, List.getElem?_cons_succ, Option.some.injEq] at ho; subst ho; refine ⟨?_, Or.inl ⟨by rfl, fun W hSW => ?_⟩, ?_⟩; rotate_left; (focus (go_simp; first | done | with_reducible rfl)); try simp only [Act.put, List.setIfInBounds_toArray, List.set_cons_zero, List.set_cons_succ])
          refine wpSeq_done ?_
          clear x0 x1 x2 x3 y0 y1 y2 y3
          go_wp2_with fail
          rw [HPL.out] at HPO

          have hZ := (((HR.out.set_ 0 (.int .i64 0)).set_ 1 (.string ⟨#[]⟩)).set_ 2 (.int .i64 0)).set_ 3 (.slice none 0 0)
          have z0 := hZ.cell 0
          have z1 := hZ.cell 1
          have z2 := hZ.cell 2
          have z3 := hZ.cell 3
          refine bodyPost_ret (v := .tuple #[.agg #[.int .i64 0, .string ⟨#[]⟩, .int .i64 0, .slice none 0 0], .int .i64 (41), .int .i64 ((tk.place : Int))]) (by simp [results, Tryz.results14, go_sem, z0, z1, z2, z3]) rfl ?_
          rw [HPO.out]
          refine ⟨none, 0, rfl, fm0_v _ _, ?_⟩
          exact (((HB.out.setCell (p := ⟨w.heap.size, 0, none⟩) (by dsimp only; omega) _).setCell (p := ⟨w.heap.size, 1, none⟩) (by dsimp only; omega) _).setCell (p := ⟨w.heap.size, 2, none⟩) (by dsimp only; omega) _).setCell (p := ⟨w.heap.size, 3, none⟩) (by dsimp only; omega) _
end Go.Proofs.YtijecfmblddanaaGreatDoor
