/- Formulas: the document's text and part. -/
import Derived.Test.YtijecfmblddanaaDoorGrow
import Derived.Test.YtijecfmblddanaaDoorFmKey
import Derived.Test.YtijecfmblddanaaDoorFmPrint
set_option linter.unusedVariables false
set_option linter.unusedSimpArgs false
namespace Go.Proofs.YtijecfmblddanaaDoor
open Go.RowKit Go.Maps

/-- A text comes back. -/
def RetS (w : World) (l : List UInt8) (e : Ending) (w' : World) : Prop := ∃ t : ByteArray, e = .returned (.string t) ∧ t.data.toList = l ∧ Below w.heap.size w w'
theorem ba_size (t : ByteArray) : t.size = t.data.toList.length := Array.length_toList.symm

set_option maxHeartbeats 1000000 in
theorem rpart_of (f : Fm) (w : World) (B : Nat) (A : Option Addr) (c : Nat) (hlen : f.txt.length ≤ 100000) (hf : FmV w B f A c) (hB : B ≤ w.heap.size) (hT : ∀ W, FmV W B f A c → B ≤ W.heap.size → Calls Tryd.prog 57 #[fmA f A c] W (RetS W f.txt)) :
    Calls Tryd.prog 76 #[fmA f A c] w (RetS w f.part) := by
  have hb1 := stepA w (.cells #[.int .i64 f.kind, .string ⟨f.name.toArray⟩, .int .i64 f.lit, .slice A f.kids.length c] 37)
  have HC := Lib.hid (hT _ (hf.low (hb1.mono hB)) (by have := hb1.size; omega))
  have HB1 := Lib.hid hb1
  have hk1 := hf.kind.1
  have hk2 := hf.kind.2
  clear hb1 hT hf
  unfold fmA at HC ⊢
  by_cases hin : 5 ≤ f.kind ∧ f.kind ≤ 8
  · have HP : Hid (f.part = 40 :: (f.txt ++ [41])) := Lib.hid (by unfold Fm.part parT; rw [if_pos hin])
    obtain ⟨h5, h8⟩ := hin
    go_enter Tryd.func76, Tryd.ntmps76
    go_wp2_with fail
    refine HC.out.mono ?_
    rintro e w2 ⟨t, rfl, ht, hb2⟩
    have hts : t.size ≤ 100000 := by rw [ba_size, ht]; exact hlen
    have HT := Lib.hid ht
    have HB2 := Lib.hid hb2
    clear ht hb2
    go_wp2_with fail
    go_ret
    refine ⟨_, rfl, ?_, step2 HB1.out HB2.out⟩
    rw [HP.out, ← HT.out]
    simp
  · have HP : Hid (f.part = f.txt) := Lib.hid (by unfold Fm.part parT; rw [if_neg hin])
    rcases (show f.kind < 5 ∨ (5 ≤ f.kind ∧ 8 < f.kind) by omega) with h5 | ⟨h5, h8⟩
    all_goals
      clear hin
      go_enter Tryd.func76, Tryd.ntmps76
      go_wp2_with fail
      refine HC.out.mono ?_
      rintro e w2 ⟨t, rfl, ht, hb2⟩
      have HT := Lib.hid ht
      have HB2 := Lib.hid hb2
      clear ht hb2
      go_wp2_with fail
      go_ret
      refine ⟨_, rfl, ?_, step2 HB1.out HB2.out⟩
      rw [HP.out, ← HT.out]

theorem kids_one {f : Fm} (h : (f.kids.length : Int) = 1) : ∃ k, f.kids = [k] := by
  match hk : f.kids, h with
  | [k], _ => exact ⟨k, rfl⟩
  | [], h => simp at h
  | _ :: _ :: _, h => simp at h; omega
theorem kids_two {f : Fm} (h : (f.kids.length : Int) = 2) : ∃ k j, f.kids = [k, j] := by
  match hk : f.kids, h with
  | [k, j], _ => exact ⟨k, j, rfl⟩
  | [], h => simp at h
  | [_], h => simp at h
  | _ :: _ :: _ :: _, h => simp at h; omega
-- rtext
set_option maxRecDepth 100000 in
set_option maxHeartbeats 4000000 in
theorem rtext_any : ∀ (n : Nat) (f : Fm), f.sz < n → ∀ (d : Int), f.wf d = true → f.sz ≤ 2000 → ∀ (w : World) (B : Nat) (A : Option Addr) (c : Nat), FmV w B f A c → B ≤ w.heap.size → Calls Tryd.prog 57 #[fmA f A c] w (RetS w f.txt)
  | 0, f, h => by omega
  | n + 1, f, hn => by
    intro d hwf hbig w B A c hf hB
    obtain ⟨⟨hk1, hk18⟩, hkn, hkw, hkk⟩ := wf_parts hwf
    have hb1 := stepA w (.cells #[.int .i64 f.kind, .string ⟨f.name.toArray⟩, .int .i64 f.lit, .slice A f.kids.length c] 37)
    have HX := Lib.hid (Blk.new w 37 #[.int .i64 f.kind, .string ⟨f.name.toArray⟩, .int .i64 f.lit, .slice A f.kids.length c])
    have HB1 := Lib.hid hb1
    have HF := Lib.hid hf
    have e0 := HX.out.cell 0
    have e1 := HX.out.cell 1
    have e3 := HX.out.cell 3
    have HKID : Hid (∀ k, k ∈ f.kids → ∀ (Ak : Option Addr) (ck : Nat), FmV w B k Ak ck → ∀ W, Below w.heap.size w W → Calls Tryd.prog 76 #[fmA k Ak ck] W (RetS W k.part)) := Lib.hid fun k hk Ak ck hv W hW => by
      have h1 := Fm.kid_sz hk
      have h2 := txt_len (k.sz + 1) k (Nat.lt_succ_self _) _ (hkk k hk)
      exact rpart_of k W B Ak ck (by omega) (hv.low (hW.mono hB)) (by have := hW.size; omega) fun W' hv' hB' => rtext_any n k (by omega) _ (hkk k hk) (by omega) W' B Ak ck hv' hB'
    have HKL : Hid (∀ k, k ∈ f.kids → k.part.length ≤ 100000) := Lib.hid fun k hk => by
      have h1 := Fm.kid_sz hk
      have h2 := txt_len (k.sz + 1) k (Nat.lt_succ_self _) _ (hkk k hk)
      have h3 := part_len k
      omega
    clear hb1 hkk hwf hn hbig
    unfold fmA
    by_cases h1 : f.kind = 1
    · have HTX : Hid (f.txt = [102, 97, 108, 115, 101]) := Lib.hid (by
        rw [f.txt_eq, h1, if_neg (by decide), show f.kids = [] from List.eq_nil_of_length_eq_zero (by rw [h1] at hkn; have : nk 1 = 0 := rfl; omega)]
        rfl)
      have h1' : (f.kind == 1) = true := by simp [h1]
      clear h1
      go_enter Tryd.func57, Tryd.ntmps57
      go_wp2_with fail
      go_ret
      exact ⟨_, rfl, HTX.out.symm, HB1.out⟩
    have h1' : (f.kind == 1) = false := by simpa using h1
    by_cases h2 : f.kind = 2
    · have HTX : Hid (f.txt = [116, 114, 117, 101]) := Lib.hid (by
        rw [f.txt_eq, h2, if_neg (by decide), show f.kids = [] from List.eq_nil_of_length_eq_zero (by rw [h2] at hkn; have : nk 2 = 0 := rfl; omega)]
        rfl)
      have h2' : (f.kind == 2) = true := by simp [h2]
      clear h1 h2
      go_enter Tryd.func57, Tryd.ntmps57
      go_wp2_with fail
      go_ret
      exact ⟨_, rfl, HTX.out.symm, HB1.out⟩
    have h2' : (f.kind == 2) = false := by simpa using h2
    by_cases h3 : f.kind = 3
    · have HTX : Hid (f.txt = if plainB f.name then f.name else 34 :: (f.name ++ [34])) := Lib.hid (by rw [f.txt_eq, if_pos h3]; rfl)
      have hnm : f.name.length ≤ 140737488355328 := HF.out.name
      have HPL := Lib.hid (fun W => plain_any ⟨f.name.toArray⟩ (by show f.name.toArray.size ≤ _; rw [List.size_toArray]; omega) W)
      have h3' : (f.kind == 3) = true := by simp [h3]
      have HXB := Lib.hid (fun W (h : Below (w.alloc (.cells #[.int .i64 f.kind, .string ⟨f.name.toArray⟩, .int .i64 f.lit, .slice A f.kids.length c] 37)).heap.size (w.alloc (.cells #[.int .i64 f.kind, .string ⟨f.name.toArray⟩, .int .i64 f.lit, .slice A f.kids.length c] 37)) W) => (HX.out.below h (by simp)).cell 0)
      have HXC := Lib.hid (fun W (h : Below (w.alloc (.cells #[.int .i64 f.kind, .string ⟨f.name.toArray⟩, .int .i64 f.lit, .slice A f.kids.length c] 37)).heap.size (w.alloc (.cells #[.int .i64 f.kind, .string ⟨f.name.toArray⟩, .int .i64 f.lit, .slice A f.kids.length c] 37)) W) => (HX.out.below h (by simp)).cell 1)
      clear h1 h2 h3 hkn hkw
      generalize plainB f.name = pp at HTX HPL
      cases pp with
      | true =>
        go_enter Tryd.func57, Tryd.ntmps57
        go_wp2_with fail
        refine (HPL.out _).mono ?_
        rintro e w2 ⟨rfl, hb2⟩
        have x0 := HXB.out w2 hb2
        have x1 := HXC.out w2 hb2
        have HB2 := Lib.hid (step2 HB1.out hb2)
        clear hb2
        go_wp2_with fail
        go_ret
        exact ⟨_, rfl, HTX.out.symm, HB2.out⟩
      | false =>
        go_enter Tryd.func57, Tryd.ntmps57
        go_wp2_with fail
        refine (HPL.out _).mono ?_
        rintro e w2 ⟨rfl, hb2⟩
        have x0 := HXB.out w2 hb2
        have x1 := HXC.out w2 hb2
        have HB2 := Lib.hid (step2 HB1.out hb2)
        clear hb2
        go_wp2_with fail
        go_ret
        refine ⟨_, rfl, ?_, HB2.out⟩
        rw [HTX.out]
        simp
    have h3' : (f.kind == 3) = false := by simpa using h3
    have HTX : Hid (f.txt = (shp f.kind).1 ++ (joinB (shp f.kind).2.1 (f.kids.map Fm.part) ++ (shp f.kind).2.2)) := Lib.hid (by rw [f.txt_eq, if_neg h3])
    by_cases h4 : f.kind = 4
    · have h4' : (f.kind == 4) = true := by simp [h4]
      obtain ⟨k, hks⟩ := kids_one (f := f) (by rw [h4] at hkn; exact hkn)
      have hmk : k ∈ f.kids := by rw [hks]; exact List.mem_singleton.2 rfl
      obtain ⟨q, o, Ak, ck, rfl, hq, ⟨q0, q1, q2, q3⟩, hkv⟩ := (HF.out.kids.low (HB1.out.mono hB)).v (show f.kids[0]? = some k by rw [hks]; rfl)
      have hkv2 : FmV w B k Ak ck := by
        obtain ⟨q', o', A2, c2, e', _, ⟨_, _, _, p3⟩, hv⟩ := HF.out.kids.v (show f.kids[0]? = some k by rw [hks]; rfl)
        cases e'
        have := (bcell (HB1.out.mono hB)).1 q (o + 0 * 4 + 3) (by omega)
        rw [q3, p3] at this
        cases this
        exact hv
      have HC := Lib.hid (HKID.out k hmk Ak ck hkv2 _ HB1.out)
      have HL := Lib.hid (HKL.out k hmk)
      have HT4 : Hid (f.txt = 33 :: k.part) := Lib.hid (by rw [HTX.out, hks, h4]; simp [shp, joinB])
      have hlen : (0 : Int) < (f.kids.length : Int) := by rw [hks]; simp
      clear h1 h2 h3 h4 hkn hkw hkv hkv2 hmk hks
      unfold fmA at HC
      simp only [Nat.zero_mul, Nat.add_zero] at q0 q1 q2 q3
      go_enter Tryd.func57, Tryd.ntmps57
      go_wp2_with fail
      refine HC.out.mono ?_
      rintro e w2 ⟨t, rfl, ht, hb2⟩
      have hts : t.size ≤ 100000 := by rw [ba_size, ht]; exact HL.out
      have HT := Lib.hid ht
      have HB2 := Lib.hid (step2 HB1.out hb2)
      clear ht hb2
      go_wp2_with fail
      go_ret
      refine ⟨_, rfl, ?_, HB2.out⟩
      rw [HT4.out, ← HT.out]
      simp
    have h4' : (f.kind == 4) = false := by simpa using h4
    by_cases h8 : f.kind ≤ 8
    · have h5 : 5 ≤ f.kind := by omega
      obtain ⟨k, j, hks⟩ := kids_two (f := f) (by rw [hkn]; unfold nk; rw [if_neg (by omega), if_neg (by omega), if_neg (by omega)])
      have hmk : k ∈ f.kids := by rw [hks]; simp
      obtain ⟨q, o, Ak, ck, rfl, hq, ⟨p0, p1, p2, p3⟩, hkv⟩ := HF.out.kids.v (show f.kids[0]? = some k by rw [hks]; rfl)
      have hmj : j ∈ f.kids := by rw [hks]; simp
      obtain ⟨q', o', Aj, cj, e', _, ⟨r0, r1, r2, r3⟩, hjv⟩ := HF.out.kids.v (show f.kids[1]? = some j by rw [hks]; rfl)
      cases e'
      simp only [Nat.zero_mul, Nat.add_zero, Nat.one_mul, Nat.add_assoc, Nat.reduceAdd] at p0 p1 p2 p3 r0 r1 r2 r3
      have HSB : Hid (∀ W, Below (w.alloc (.cells #[.int .i64 f.kind, .string ⟨f.name.toArray⟩, .int .i64 f.lit, .slice (some ⟨q, o, none⟩) f.kids.length c] 37)).heap.size (w.alloc (.cells #[.int .i64 f.kind, .string ⟨f.name.toArray⟩, .int .i64 f.lit, .slice (some ⟨q, o, none⟩) f.kids.length c] 37)) W → ((W.cell? ⟨w.heap.size, 0, none⟩ = some (.int .i64 f.kind) ∧ W.cell? ⟨w.heap.size, 3, none⟩ = some (.slice (some ⟨q, o, none⟩) f.kids.length c)) ∧ (W.cell? ⟨q, o, none⟩ = some (.int .i64 k.kind) ∧ W.cell? ⟨q, o + 1, none⟩ = some (.string ⟨k.name.toArray⟩) ∧ W.cell? ⟨q, o + 2, none⟩ = some (.int .i64 k.lit) ∧ W.cell? ⟨q, o + 3, none⟩ = some (.slice Ak k.kids.length ck)) ∧ (W.cell? ⟨q, o + 4, none⟩ = some (.int .i64 j.kind) ∧ W.cell? ⟨q, o + 5, none⟩ = some (.string ⟨j.name.toArray⟩) ∧ W.cell? ⟨q, o + 6, none⟩ = some (.int .i64 j.lit) ∧ W.cell? ⟨q, o + 7, none⟩ = some (.slice Aj j.kids.length cj)))) := Lib.hid fun W h => by
        have hc := (bcell ((step2 HB1.out h).mono hB)).1 q
        refine ⟨⟨(HX.out.below h (by simp)).cell 0, (HX.out.below h (by simp)).cell 3⟩, ⟨by rw [hc _ hq]; exact p0, by rw [hc _ hq]; exact p1, by rw [hc _ hq]; exact p2, by rw [hc _ hq]; exact p3⟩, ⟨by rw [hc _ hq]; exact r0, by rw [hc _ hq]; exact r1, by rw [hc _ hq]; exact r2, by rw [hc _ hq]; exact r3⟩⟩
      have HCk := Lib.hid (fun W (h : Below (w.alloc (.cells #[.int .i64 f.kind, .string ⟨f.name.toArray⟩, .int .i64 f.lit, .slice (some ⟨q, o, none⟩) f.kids.length c] 37)).heap.size (w.alloc (.cells #[.int .i64 f.kind, .string ⟨f.name.toArray⟩, .int .i64 f.lit, .slice (some ⟨q, o, none⟩) f.kids.length c] 37)) W) => HKID.out k hmk Ak ck hkv W (step2 HB1.out h))
      have HLk := Lib.hid (HKL.out k hmk)
      unfold fmA at HCk
      have HCj := Lib.hid (fun W (h : Below (w.alloc (.cells #[.int .i64 f.kind, .string ⟨f.name.toArray⟩, .int .i64 f.lit, .slice (some ⟨q, o, none⟩) f.kids.length c] 37)).heap.size (w.alloc (.cells #[.int .i64 f.kind, .string ⟨f.name.toArray⟩, .int .i64 f.lit, .slice (some ⟨q, o, none⟩) f.kids.length c] 37)) W) => HKID.out j hmj Aj cj hjv W (step2 HB1.out h))
      have HLj := Lib.hid (HKL.out j hmj)
      unfold fmA at HCj
      have hlen : 0 < f.kids.length := by rw [hks]; simp
      have hlen1 : (1 : Int) < (f.kids.length : Int) := by rw [hks]; simp
      have HT4 : Hid (f.txt = (shp f.kind).1 ++ (k.part ++ ((shp f.kind).2.1 ++ (j.part ++ (shp f.kind).2.2)))) := Lib.hid (by rw [HTX.out, hks]; simp [joinB])
      have HROW : Hid ((#[.string ⟨#[32, 38, 32]⟩, .string ⟨#[32, 124, 32]⟩, .string ⟨#[32, 45, 62, 32]⟩, .string ⟨#[32, 60, 45, 62, 32]⟩] : Array Value)[(f.kind - 5).toNat]? = some (.string ⟨(shp f.kind).2.1.toArray⟩)) := Lib.hid (by rcases (show f.kind = 5 ∨ f.kind = 6 ∨ f.kind = 7 ∨ f.kind = 8 by omega) with h | h | h | h <;> rw [h] <;> rfl)
      have HSH : Hid ((shp f.kind).1 = [] ∧ (shp f.kind).2.2 = []) := Lib.hid (by rcases (show f.kind = 5 ∨ f.kind = 6 ∨ f.kind = 7 ∨ f.kind = 8 by omega) with h | h | h | h <;> rw [h] <;> exact ⟨rfl, rfl⟩)
      have hsl := (shp_len f.kind).2.1
      have hwr : IntKind.i64.wrap (f.kind - 5) = f.kind - 5 := IntWalk.i64_in _ (by omega)
      have hi0 : 0 ≤ f.kind - 5 := by omega
      have hi4 : f.kind - 5 < 4 := by omega
      clear h1 h2 h3 h4 hkn hkw hkv hjv hmk hmj hks p0 p1 p2 p3 r0 r1 r2 r3
      go_enter Tryd.func57, Tryd.ntmps57
      go_wp2_with fail
      refine wp_region_noPanic ?_
      refine wp_region_grow (fun W => ((W.cell? ⟨w.heap.size, 0, none⟩ = some (.int .i64 f.kind) ∧ W.cell? ⟨w.heap.size, 3, none⟩ = some (.slice (some ⟨q, o, none⟩) f.kids.length c)) ∧ (W.cell? ⟨q, o, none⟩ = some (.int .i64 k.kind) ∧ W.cell? ⟨q, o + 1, none⟩ = some (.string ⟨k.name.toArray⟩) ∧ W.cell? ⟨q, o + 2, none⟩ = some (.int .i64 k.lit) ∧ W.cell? ⟨q, o + 3, none⟩ = some (.slice Ak k.kids.length ck)) ∧ (W.cell? ⟨q, o + 4, none⟩ = some (.int .i64 j.kind) ∧ W.cell? ⟨q, o + 5, none⟩ = some (.string ⟨j.name.toArray⟩) ∧ W.cell? ⟨q, o + 6, none⟩ = some (.int .i64 j.lit) ∧ W.cell? ⟨q, o + 7, none⟩ = some (.slice Aj j.kids.length cj)))) (Ord.ofList [0, 1, 2, 3, 6, 7, 8, 12, 13, 14, 15] (.fork 4 (.fork 5 (Ord.ofList [9, 10, 11, 16, 17, 18] .done) 16 (Ord.ofList [5, 9, 10, 11, 17, 18] .done)) 5 (Ord.ofList [9, 10, 4, 11, 16, 17, 18] .done))) [0, 1, 2, 3, 6, 7, 8, 9, 10, 11, 12, 13, 14, 15, 17, 18] (by kernel_rfl) (by kernel_rfl) rfl (by kernel_rfl) (fun _ _ _ _ _ h => h) ?_ (fun hSS => ?_)
      · exact HSB.out _ (stepD1 _)
      have HW0 := Lib.hid (stepD1 (w.alloc (.cells #[.int .i64 f.kind, .string ⟨f.name.toArray⟩, .int .i64 f.lit, .slice (some ⟨q, o, none⟩) f.kids.length c] 37)))
      clear hSS
      generalize (w.alloc (.cells #[.int .i64 f.kind, .string ⟨f.name.toArray⟩, .int .i64 f.lit, .slice (some ⟨q, o, none⟩) f.kids.length c] 37)).drew = v0 at HW0 ⊢
      (refine wpGrow_mov rfl rfl ?_; intro o ho; simp only [List.getElem?_toArray, List.getElem?_cons_zero, List.getElem?_cons_succ, Option.some.injEq] at ho; subst ho; refine ⟨?_, Or.inl ⟨by rfl, fun W hSW => ?_⟩, ?_⟩; rotate_left; (focus (go_simp; first | done | with_reducible rfl)); try simp only [Act.put, List.setIfInBounds_toArray, List.set_cons_zero, List.set_cons_succ])
      (refine wpGrow_mov rfl rfl ?_; intro o ho; simp only [List.getElem?_toArray, List.getElem?_cons_zero, List.getElem?_cons_succ, Option.some.injEq] at ho; subst ho; refine ⟨?_, Or.inl ⟨by rfl, fun W hSW => ?_⟩, ?_⟩; rotate_left; (focus (go_simp; first | done | with_reducible rfl)); try simp only [Act.put, List.setIfInBounds_toArray, List.set_cons_zero, List.set_cons_succ])
      (refine wpGrow_mov rfl rfl ?_; intro o ho; simp only [List.getElem?_toArray, List.getElem?_cons_zero, List.getElem?_cons_succ, Option.some.injEq] at ho; subst ho; refine ⟨?_, Or.inl ⟨by rfl, fun W hSW => ?_⟩, ?_⟩; rotate_left; (focus (go_simp; first | done | with_reducible rfl)); try simp only [Act.put, List.setIfInBounds_toArray, List.set_cons_zero, List.set_cons_succ])
      (refine wpGrow_mov rfl rfl ?_; intro o ho; simp only [List.getElem?_toArray, List.getElem?_cons_zero, List.getElem?_cons_succ, Option.some.injEq] at ho; subst ho; refine ⟨?_, Or.inl ⟨by rfl, fun W hSW => ?_⟩, ?_⟩; rotate_left; (focus (go_simp; first | done | with_reducible rfl)); try simp only [Act.put, List.setIfInBounds_toArray, List.set_cons_zero, List.set_cons_succ])
      (refine wpGrow_mov rfl rfl ?_; intro o ho; simp only [List.getElem?_toArray, List.getElem?_cons_zero, List.getElem?_cons_succ, Option.some.injEq] at ho; subst ho; refine ⟨?_, Or.inl ⟨by rfl, fun W hSW => ?_⟩, ?_⟩; rotate_left; (focus (go_simp; first | done | with_reducible rfl)); try simp only [Act.put, List.setIfInBounds_toArray, List.set_cons_zero, List.set_cons_succ])
      (refine wpGrow_mov rfl rfl ?_; intro o ho; simp only [List.getElem?_toArray, List.getElem?_cons_zero, List.getElem?_cons_succ, Option.some.injEq] at ho; subst ho; refine ⟨?_, Or.inl ⟨by rfl, fun W hSW => ?_⟩, ?_⟩; rotate_left; (focus (go_simp; first | done | with_reducible rfl)); try simp only [Act.put, List.setIfInBounds_toArray, List.set_cons_zero, List.set_cons_succ])
      (refine wpGrow_mov rfl rfl ?_; intro o ho; simp only [List.getElem?_toArray, List.getElem?_cons_zero, List.getElem?_cons_succ, Option.some.injEq] at ho; subst ho; refine ⟨?_, Or.inl ⟨by rfl, fun W hSW => ?_⟩, ?_⟩; rotate_left; (focus (go_simp; first | done | with_reducible rfl)); try simp only [Act.put, List.setIfInBounds_toArray, List.set_cons_zero, List.set_cons_succ])
      (refine wpGrow_mov rfl rfl ?_; intro o ho; simp only [List.getElem?_toArray, List.getElem?_cons_zero, List.getElem?_cons_succ, Option.some.injEq] at ho; subst ho; refine ⟨?_, Or.inl ⟨by rfl, fun W hSW => ?_⟩, ?_⟩; rotate_left; (focus (go_simp; first | done | with_reducible rfl)); try simp only [Act.put, List.setIfInBounds_toArray, List.set_cons_zero, List.set_cons_succ])
      (refine wpGrow_mov rfl rfl ?_; intro o ho; simp only [List.getElem?_toArray, List.getElem?_cons_zero, List.getElem?_cons_succ, Option.some.injEq] at ho; subst ho; refine ⟨?_, Or.inl ⟨by rfl, fun W hSW => ?_⟩, ?_⟩; rotate_left; (focus (go_simp; first | done | with_reducible rfl)); try simp only [Act.put, List.setIfInBounds_toArray, List.set_cons_zero, List.set_cons_succ])
      (refine wpGrow_mov rfl rfl ?_; intro o ho; simp only [List.getElem?_toArray, List.getElem?_cons_zero, List.getElem?_cons_succ, Option.some.injEq] at ho; subst ho; refine ⟨?_, Or.inl ⟨by rfl, fun W hSW => ?_⟩, ?_⟩; rotate_left; (focus (go_simp; first | done | with_reducible rfl)); try simp only [Act.put, List.setIfInBounds_toArray, List.set_cons_zero, List.set_cons_succ])
      (refine wpGrow_mov rfl rfl ?_; intro o ho; simp only [List.getElem?_toArray, List.getElem?_cons_zero, List.getElem?_cons_succ, Option.some.injEq] at ho; subst ho; refine ⟨?_, Or.inl ⟨by rfl, fun W hSW => ?_⟩, ?_⟩; rotate_left; (focus (go_simp; first | done | with_reducible rfl)); try simp only [Act.put, List.setIfInBounds_toArray, List.set_cons_zero, List.set_cons_succ])
      refine wpGrow_fork ?_ ?_
      · skip
        (refine growW_of rfl ?_; intro o ho; simp only [List.getElem?_toArray, List.getElem?_cons_zero, List.getElem?_cons_succ, Option.some.injEq] at ho; subst ho; intro K hK)
        go_simp
        refine (HCk.out _ HW0.out).mono ?_
        rintro e w1 ⟨tk, rfl, ht, hb⟩
        have htk : tk.size ≤ 100000 := by rw [ba_size, ht]; exact HLk.out
        have HTk := Lib.hid ht
        have hsum1 : ¬ 9223372036854775807 < tk.size + (shp f.kind).2.1.length := by omega
        have HW1 := Lib.hid (step2 HW0.out hb)
        clear ht hb
        (refine hK.out _ _ ⟨_, (fun _ h => h), HSB.out _ HW1.out, ?_⟩; clear hK K; try simp only [Act.put, List.setIfInBounds_toArray, List.set_cons_zero, List.set_cons_succ])
        refine wpGrow_fork ?_ ?_
        · skip
          (refine growW_of rfl ?_; intro o ho; simp only [List.getElem?_toArray, List.getElem?_cons_zero, List.getElem?_cons_succ, Option.some.injEq] at ho; subst ho; intro K hK)
          go_simp
          have HW2 := Lib.hid (step2 HW1.out (stepA w1 (.cells #[.string ⟨#[32, 38, 32]⟩, .string ⟨#[32, 124, 32]⟩, .string ⟨#[32, 45, 62, 32]⟩, .string ⟨#[32, 60, 45, 62, 32]⟩] 9)))
          have HR2 := Lib.hid (Blk.new w1 9 #[.string ⟨#[32, 38, 32]⟩, .string ⟨#[32, 124, 32]⟩, .string ⟨#[32, 45, 62, 32]⟩, .string ⟨#[32, 60, 45, 62, 32]⟩])
          (refine hK.out _ _ ⟨(fun W => ((W.cell? ⟨w.heap.size, 0, none⟩ = some (.int .i64 f.kind) ∧ W.cell? ⟨w.heap.size, 3, none⟩ = some (.slice (some ⟨q, o, none⟩) f.kids.length c)) ∧ (W.cell? ⟨q, o, none⟩ = some (.int .i64 k.kind) ∧ W.cell? ⟨q, o + 1, none⟩ = some (.string ⟨k.name.toArray⟩) ∧ W.cell? ⟨q, o + 2, none⟩ = some (.int .i64 k.lit) ∧ W.cell? ⟨q, o + 3, none⟩ = some (.slice Ak k.kids.length ck)) ∧ (W.cell? ⟨q, o + 4, none⟩ = some (.int .i64 j.kind) ∧ W.cell? ⟨q, o + 5, none⟩ = some (.string ⟨j.name.toArray⟩) ∧ W.cell? ⟨q, o + 6, none⟩ = some (.int .i64 j.lit) ∧ W.cell? ⟨q, o + 7, none⟩ = some (.slice Aj j.kids.length cj))) ∧ W.cell? ⟨w1.heap.size, (f.kind - 5).toNat, none⟩ = some (.string ⟨(shp f.kind).2.1.toArray⟩)), (fun _ h => h.1), ⟨HSB.out _ HW2.out, (HR2.out.cell _).trans HROW.out⟩, ?_⟩; clear hK K; try simp only [Act.put, List.setIfInBounds_toArray, List.set_cons_zero, List.set_cons_succ])
          generalize w1.heap.size = rb at HR2 ⊢
          generalize w1.alloc (.cells #[.string ⟨#[32, 38, 32]⟩, .string ⟨#[32, 124, 32]⟩, .string ⟨#[32, 45, 62, 32]⟩, .string ⟨#[32, 60, 45, 62, 32]⟩] 9) = v2 at HW2 HR2 ⊢
          (refine wpGrow_mov rfl rfl ?_; intro o ho; simp only [List.getElem?_toArray, List.getElem?_cons_zero, List.getElem?_cons_succ, Option.some.injEq] at ho; subst ho; refine ⟨?_, Or.inl ⟨by rfl, fun W hSW => ?_⟩, ?_⟩; rotate_left; (focus (go_simp; first | done | with_reducible rfl)); try simp only [Act.put, List.setIfInBounds_toArray, List.set_cons_zero, List.set_cons_succ])
          (refine wpGrow_mov rfl rfl ?_; intro o ho; simp only [List.getElem?_toArray, List.getElem?_cons_zero, List.getElem?_cons_succ, Option.some.injEq] at ho; subst ho; refine ⟨?_, Or.inl ⟨by rfl, fun W hSW => ?_⟩, ?_⟩; rotate_left; (focus (go_simp; first | done | with_reducible rfl)); try simp only [Act.put, List.setIfInBounds_toArray, List.set_cons_zero, List.set_cons_succ])
          (refine wpGrow_mov rfl rfl ?_; intro o ho; simp only [List.getElem?_toArray, List.getElem?_cons_zero, List.getElem?_cons_succ, Option.some.injEq] at ho; subst ho; refine ⟨?_, Or.inl ⟨by rfl, fun W hSW => ?_⟩, ?_⟩; rotate_left; (focus (go_simp; first | done | with_reducible rfl)); try simp only [Act.put, List.setIfInBounds_toArray, List.set_cons_zero, List.set_cons_succ])
          (refine wpGrow_fix rfl rfl ?_; intro o ho; simp only [List.getElem?_toArray, List.getElem?_cons_zero, List.getElem?_cons_succ, Option.some.injEq] at ho; subst ho; intro K hK)
          go_simp
          refine (HCj.out _ HW2.out).mono ?_
          rintro e w3 ⟨tj, rfl, ht, hb⟩
          have htj : tj.size ≤ 100000 := by rw [ba_size, ht]; exact HLj.out
          have HTj := Lib.hid ht
          have hsum2 : ¬ 9223372036854775807 < tk.size + (shp f.kind).2.1.length + tj.size := by omega
          have HW3 := Lib.hid (step2 HW2.out hb)
          have HR3 := Lib.hid (HR2.out.below hb HR2.out.lt)
          clear ht hb
          (refine hK.out _ _ ⟨_, (fun _ h => h), ⟨HSB.out _ HW3.out, (HR3.out.cell _).trans HROW.out⟩, ?_⟩; clear hK K; try simp only [Act.put, List.setIfInBounds_toArray, List.set_cons_zero, List.set_cons_succ])
          (refine wpGrow_mov rfl rfl ?_; intro o ho; simp only [List.getElem?_toArray, List.getElem?_cons_zero, List.getElem?_cons_succ, Option.some.injEq] at ho; subst ho; refine ⟨?_, Or.inl ⟨by rfl, fun W hSW => ?_⟩, ?_⟩; rotate_left; (focus (go_simp; first | done | with_reducible rfl)); try simp only [Act.put, List.setIfInBounds_toArray, List.set_cons_zero, List.set_cons_succ])
          (refine wpGrow_mov rfl rfl ?_; intro o ho; simp only [List.getElem?_toArray, List.getElem?_cons_zero, List.getElem?_cons_succ, Option.some.injEq] at ho; subst ho; refine ⟨?_, Or.inl ⟨by rfl, fun W hSW => ?_⟩, ?_⟩; rotate_left; (focus (go_simp; first | done | with_reducible rfl)); try simp only [Act.put, List.setIfInBounds_toArray, List.set_cons_zero, List.set_cons_succ])
          refine wpGrow_done ?_
          go_wp2_with fail
          go_ret
          refine ⟨_, rfl, ?_, step2 HB1.out HW3.out⟩
          rw [HT4.out, HSH.out.1, HSH.out.2, ← HTk.out, ← HTj.out]
          simp [List.append_assoc]
        · skip
          (refine growW_of rfl ?_; intro o ho; simp only [List.getElem?_toArray, List.getElem?_cons_zero, List.getElem?_cons_succ, Option.some.injEq] at ho; subst ho; intro K hK)
          go_simp
          refine (HCj.out _ HW1.out).mono ?_
          rintro e w2 ⟨tj, rfl, ht, hb⟩
          have htj : tj.size ≤ 100000 := by rw [ba_size, ht]; exact HLj.out
          have HTj := Lib.hid ht
          have hsum2 : ¬ 9223372036854775807 < tk.size + (shp f.kind).2.1.length + tj.size := by omega
          have HW2 := Lib.hid (step2 HW1.out hb)
          clear ht hb
          (refine hK.out _ _ ⟨_, (fun _ h => h), HSB.out _ HW2.out, ?_⟩; clear hK K; try simp only [Act.put, List.setIfInBounds_toArray, List.set_cons_zero, List.set_cons_succ])
          (refine wpGrow_fix rfl rfl ?_; intro o ho; simp only [List.getElem?_toArray, List.getElem?_cons_zero, List.getElem?_cons_succ, Option.some.injEq] at ho; subst ho; intro K hK)
          go_simp
          have HW3 := Lib.hid (step2 HW2.out (stepA w2 (.cells #[.string ⟨#[32, 38, 32]⟩, .string ⟨#[32, 124, 32]⟩, .string ⟨#[32, 45, 62, 32]⟩, .string ⟨#[32, 60, 45, 62, 32]⟩] 9)))
          have HR3 := Lib.hid (Blk.new w2 9 #[.string ⟨#[32, 38, 32]⟩, .string ⟨#[32, 124, 32]⟩, .string ⟨#[32, 45, 62, 32]⟩, .string ⟨#[32, 60, 45, 62, 32]⟩])
          (refine hK.out _ _ ⟨(fun W => ((W.cell? ⟨w.heap.size, 0, none⟩ = some (.int .i64 f.kind) ∧ W.cell? ⟨w.heap.size, 3, none⟩ = some (.slice (some ⟨q, o, none⟩) f.kids.length c)) ∧ (W.cell? ⟨q, o, none⟩ = some (.int .i64 k.kind) ∧ W.cell? ⟨q, o + 1, none⟩ = some (.string ⟨k.name.toArray⟩) ∧ W.cell? ⟨q, o + 2, none⟩ = some (.int .i64 k.lit) ∧ W.cell? ⟨q, o + 3, none⟩ = some (.slice Ak k.kids.length ck)) ∧ (W.cell? ⟨q, o + 4, none⟩ = some (.int .i64 j.kind) ∧ W.cell? ⟨q, o + 5, none⟩ = some (.string ⟨j.name.toArray⟩) ∧ W.cell? ⟨q, o + 6, none⟩ = some (.int .i64 j.lit) ∧ W.cell? ⟨q, o + 7, none⟩ = some (.slice Aj j.kids.length cj))) ∧ W.cell? ⟨w2.heap.size, (f.kind - 5).toNat, none⟩ = some (.string ⟨(shp f.kind).2.1.toArray⟩)), (fun _ h => h.1), ⟨HSB.out _ HW3.out, (HR3.out.cell _).trans HROW.out⟩, ?_⟩; clear hK K; try simp only [Act.put, List.setIfInBounds_toArray, List.set_cons_zero, List.set_cons_succ])
          generalize w2.heap.size = rb at HR3 ⊢
          generalize w2.alloc (.cells #[.string ⟨#[32, 38, 32]⟩, .string ⟨#[32, 124, 32]⟩, .string ⟨#[32, 45, 62, 32]⟩, .string ⟨#[32, 60, 45, 62, 32]⟩] 9) = v3 at HW3 HR3 ⊢
          (refine wpGrow_mov rfl rfl ?_; intro o ho; simp only [List.getElem?_toArray, List.getElem?_cons_zero, List.getElem?_cons_succ, Option.some.injEq] at ho; subst ho; refine ⟨?_, Or.inl ⟨by rfl, fun W hSW => ?_⟩, ?_⟩; rotate_left; (focus (go_simp; first | done | with_reducible rfl)); try simp only [Act.put, List.setIfInBounds_toArray, List.set_cons_zero, List.set_cons_succ])
          (refine wpGrow_mov rfl rfl ?_; intro o ho; simp only [List.getElem?_toArray, List.getElem?_cons_zero, List.getElem?_cons_succ, Option.some.injEq] at ho; subst ho; refine ⟨?_, Or.inl ⟨by rfl, fun W hSW => ?_⟩, ?_⟩; rotate_left; (focus (go_simp; first | done | with_reducible rfl)); try simp only [Act.put, List.setIfInBounds_toArray, List.set_cons_zero, List.set_cons_succ])
          (refine wpGrow_mov rfl rfl ?_; intro o ho; simp only [List.getElem?_toArray, List.getElem?_cons_zero, List.getElem?_cons_succ, Option.some.injEq] at ho; subst ho; refine ⟨?_, Or.inl ⟨by rfl, fun W hSW => ?_⟩, ?_⟩; rotate_left; (focus (go_simp; first | done | with_reducible rfl)); try simp only [Act.put, List.setIfInBounds_toArray, List.set_cons_zero, List.set_cons_succ])
          (refine wpGrow_mov rfl rfl ?_; intro o ho; simp only [List.getElem?_toArray, List.getElem?_cons_zero, List.getElem?_cons_succ, Option.some.injEq] at ho; subst ho; refine ⟨?_, Or.inl ⟨by rfl, fun W hSW => ?_⟩, ?_⟩; rotate_left; (focus (go_simp; first | done | with_reducible rfl)); try simp only [Act.put, List.setIfInBounds_toArray, List.set_cons_zero, List.set_cons_succ])
          (refine wpGrow_mov rfl rfl ?_; intro o ho; simp only [List.getElem?_toArray, List.getElem?_cons_zero, List.getElem?_cons_succ, Option.some.injEq] at ho; subst ho; refine ⟨?_, Or.inl ⟨by rfl, fun W hSW => ?_⟩, ?_⟩; rotate_left; (focus (go_simp; first | done | with_reducible rfl)); try simp only [Act.put, List.setIfInBounds_toArray, List.set_cons_zero, List.set_cons_succ])
          refine wpGrow_done ?_
          go_wp2_with fail
          go_ret
          refine ⟨_, rfl, ?_, step2 HB1.out HW3.out⟩
          rw [HT4.out, HSH.out.1, HSH.out.2, ← HTk.out, ← HTj.out]
          simp [List.append_assoc]
      · skip
        (refine growW_of rfl ?_; intro o ho; simp only [List.getElem?_toArray, List.getElem?_cons_zero, List.getElem?_cons_succ, Option.some.injEq] at ho; subst ho; intro K hK)
        go_simp
        have HW1 := Lib.hid (step2 HW0.out (stepA v0 (.cells #[.string ⟨#[32, 38, 32]⟩, .string ⟨#[32, 124, 32]⟩, .string ⟨#[32, 45, 62, 32]⟩, .string ⟨#[32, 60, 45, 62, 32]⟩] 9)))
        have HR1 := Lib.hid (Blk.new v0 9 #[.string ⟨#[32, 38, 32]⟩, .string ⟨#[32, 124, 32]⟩, .string ⟨#[32, 45, 62, 32]⟩, .string ⟨#[32, 60, 45, 62, 32]⟩])
        (refine hK.out _ _ ⟨(fun W => ((W.cell? ⟨w.heap.size, 0, none⟩ = some (.int .i64 f.kind) ∧ W.cell? ⟨w.heap.size, 3, none⟩ = some (.slice (some ⟨q, o, none⟩) f.kids.length c)) ∧ (W.cell? ⟨q, o, none⟩ = some (.int .i64 k.kind) ∧ W.cell? ⟨q, o + 1, none⟩ = some (.string ⟨k.name.toArray⟩) ∧ W.cell? ⟨q, o + 2, none⟩ = some (.int .i64 k.lit) ∧ W.cell? ⟨q, o + 3, none⟩ = some (.slice Ak k.kids.length ck)) ∧ (W.cell? ⟨q, o + 4, none⟩ = some (.int .i64 j.kind) ∧ W.cell? ⟨q, o + 5, none⟩ = some (.string ⟨j.name.toArray⟩) ∧ W.cell? ⟨q, o + 6, none⟩ = some (.int .i64 j.lit) ∧ W.cell? ⟨q, o + 7, none⟩ = some (.slice Aj j.kids.length cj))) ∧ W.cell? ⟨v0.heap.size, (f.kind - 5).toNat, none⟩ = some (.string ⟨(shp f.kind).2.1.toArray⟩)), (fun _ h => h.1), ⟨HSB.out _ HW1.out, (HR1.out.cell _).trans HROW.out⟩, ?_⟩; clear hK K; try simp only [Act.put, List.setIfInBounds_toArray, List.set_cons_zero, List.set_cons_succ])
        generalize v0.heap.size = rb at HR1 ⊢
        generalize v0.alloc (.cells #[.string ⟨#[32, 38, 32]⟩, .string ⟨#[32, 124, 32]⟩, .string ⟨#[32, 45, 62, 32]⟩, .string ⟨#[32, 60, 45, 62, 32]⟩] 9) = v1 at HW1 HR1 ⊢
        (refine wpGrow_mov rfl rfl ?_; intro o ho; simp only [List.getElem?_toArray, List.getElem?_cons_zero, List.getElem?_cons_succ, Option.some.injEq] at ho; subst ho; refine ⟨?_, Or.inl ⟨by rfl, fun W hSW => ?_⟩, ?_⟩; rotate_left; (focus (go_simp; first | done | with_reducible rfl)); try simp only [Act.put, List.setIfInBounds_toArray, List.set_cons_zero, List.set_cons_succ])
        (refine wpGrow_mov rfl rfl ?_; intro o ho; simp only [List.getElem?_toArray, List.getElem?_cons_zero, List.getElem?_cons_succ, Option.some.injEq] at ho; subst ho; refine ⟨?_, Or.inl ⟨by rfl, fun W hSW => ?_⟩, ?_⟩; rotate_left; (focus (go_simp; first | done | with_reducible rfl)); try simp only [Act.put, List.setIfInBounds_toArray, List.set_cons_zero, List.set_cons_succ])
        (refine wpGrow_fix rfl rfl ?_; intro o ho; simp only [List.getElem?_toArray, List.getElem?_cons_zero, List.getElem?_cons_succ, Option.some.injEq] at ho; subst ho; intro K hK)
        go_simp
        refine (HCk.out _ HW1.out).mono ?_
        rintro e w2 ⟨tk, rfl, ht, hb⟩
        have htk : tk.size ≤ 100000 := by rw [ba_size, ht]; exact HLk.out
        have HTk := Lib.hid ht
        have hsum1 : ¬ 9223372036854775807 < tk.size + (shp f.kind).2.1.length := by omega
        have HW2 := Lib.hid (step2 HW1.out hb)
        have HR2 := Lib.hid (HR1.out.below hb HR1.out.lt)
        clear ht hb
        (refine hK.out _ _ ⟨_, (fun _ h => h), ⟨HSB.out _ HW2.out, (HR2.out.cell _).trans HROW.out⟩, ?_⟩; clear hK K; try simp only [Act.put, List.setIfInBounds_toArray, List.set_cons_zero, List.set_cons_succ])
        (refine wpGrow_mov rfl rfl ?_; intro o ho; simp only [List.getElem?_toArray, List.getElem?_cons_zero, List.getElem?_cons_succ, Option.some.injEq] at ho; subst ho; refine ⟨?_, Or.inl ⟨by rfl, fun W hSW => ?_⟩, ?_⟩; rotate_left; (focus (go_simp; first | done | with_reducible rfl)); try simp only [Act.put, List.setIfInBounds_toArray, List.set_cons_zero, List.set_cons_succ])
        (refine wpGrow_fix rfl rfl ?_; intro o ho; simp only [List.getElem?_toArray, List.getElem?_cons_zero, List.getElem?_cons_succ, Option.some.injEq] at ho; subst ho; intro K hK)
        go_simp
        refine (HCj.out _ HW2.out).mono ?_
        rintro e w3 ⟨tj, rfl, ht, hb⟩
        have htj : tj.size ≤ 100000 := by rw [ba_size, ht]; exact HLj.out
        have HTj := Lib.hid ht
        have hsum2 : ¬ 9223372036854775807 < tk.size + (shp f.kind).2.1.length + tj.size := by omega
        have HW3 := Lib.hid (step2 HW2.out hb)
        have HR3 := Lib.hid (HR2.out.below hb HR2.out.lt)
        clear ht hb
        (refine hK.out _ _ ⟨_, (fun _ h => h), ⟨HSB.out _ HW3.out, (HR3.out.cell _).trans HROW.out⟩, ?_⟩; clear hK K; try simp only [Act.put, List.setIfInBounds_toArray, List.set_cons_zero, List.set_cons_succ])
        (refine wpGrow_mov rfl rfl ?_; intro o ho; simp only [List.getElem?_toArray, List.getElem?_cons_zero, List.getElem?_cons_succ, Option.some.injEq] at ho; subst ho; refine ⟨?_, Or.inl ⟨by rfl, fun W hSW => ?_⟩, ?_⟩; rotate_left; (focus (go_simp; first | done | with_reducible rfl)); try simp only [Act.put, List.setIfInBounds_toArray, List.set_cons_zero, List.set_cons_succ])
        (refine wpGrow_mov rfl rfl ?_; intro o ho; simp only [List.getElem?_toArray, List.getElem?_cons_zero, List.getElem?_cons_succ, Option.some.injEq] at ho; subst ho; refine ⟨?_, Or.inl ⟨by rfl, fun W hSW => ?_⟩, ?_⟩; rotate_left; (focus (go_simp; first | done | with_reducible rfl)); try simp only [Act.put, List.setIfInBounds_toArray, List.set_cons_zero, List.set_cons_succ])
        refine wpGrow_done ?_
        go_wp2_with fail
        go_ret
        refine ⟨_, rfl, ?_, step2 HB1.out HW3.out⟩
        rw [HT4.out, HSH.out.1, HSH.out.2, ← HTk.out, ← HTj.out]
        simp [List.append_assoc]
    by_cases h14 : f.kind ≤ 14
    · have h5 : 9 ≤ f.kind := by omega
      obtain ⟨k, hks⟩ := kids_one (f := f) (by rw [hkn]; unfold nk; rw [if_neg (by omega), if_neg (by omega), if_pos (by omega)])
      have hmk : k ∈ f.kids := by rw [hks]; simp
      obtain ⟨q, o, Ak, ck, rfl, hq, ⟨p0, p1, p2, p3⟩, hkv⟩ := HF.out.kids.v (show f.kids[0]? = some k by rw [hks]; rfl)
      simp only [Nat.zero_mul, Nat.add_zero, Nat.one_mul, Nat.add_assoc, Nat.reduceAdd] at p0 p1 p2 p3
      have HSB : Hid (∀ W, Below (w.alloc (.cells #[.int .i64 f.kind, .string ⟨f.name.toArray⟩, .int .i64 f.lit, .slice (some ⟨q, o, none⟩) f.kids.length c] 37)).heap.size (w.alloc (.cells #[.int .i64 f.kind, .string ⟨f.name.toArray⟩, .int .i64 f.lit, .slice (some ⟨q, o, none⟩) f.kids.length c] 37)) W → ((W.cell? ⟨w.heap.size, 0, none⟩ = some (.int .i64 f.kind) ∧ W.cell? ⟨w.heap.size, 3, none⟩ = some (.slice (some ⟨q, o, none⟩) f.kids.length c)) ∧ (W.cell? ⟨q, o, none⟩ = some (.int .i64 k.kind) ∧ W.cell? ⟨q, o + 1, none⟩ = some (.string ⟨k.name.toArray⟩) ∧ W.cell? ⟨q, o + 2, none⟩ = some (.int .i64 k.lit) ∧ W.cell? ⟨q, o + 3, none⟩ = some (.slice Ak k.kids.length ck)))) := Lib.hid fun W h => by
        have hc := (bcell ((step2 HB1.out h).mono hB)).1 q
        refine ⟨⟨(HX.out.below h (by simp)).cell 0, (HX.out.below h (by simp)).cell 3⟩, ⟨by rw [hc _ hq]; exact p0, by rw [hc _ hq]; exact p1, by rw [hc _ hq]; exact p2, by rw [hc _ hq]; exact p3⟩⟩
      have HCk := Lib.hid (fun W (h : Below (w.alloc (.cells #[.int .i64 f.kind, .string ⟨f.name.toArray⟩, .int .i64 f.lit, .slice (some ⟨q, o, none⟩) f.kids.length c] 37)).heap.size (w.alloc (.cells #[.int .i64 f.kind, .string ⟨f.name.toArray⟩, .int .i64 f.lit, .slice (some ⟨q, o, none⟩) f.kids.length c] 37)) W) => HKID.out k hmk Ak ck hkv W (step2 HB1.out h))
      have HLk := Lib.hid (HKL.out k hmk)
      unfold fmA at HCk
      have hlen : 0 < f.kids.length := by rw [hks]; simp
      have HT4 : Hid (f.txt = (shp f.kind).1 ++ (k.part ++ (shp f.kind).2.2)) := Lib.hid (by rw [HTX.out, hks]; simp [joinB])
      have HROW : Hid ((#[.string ⟨#[69, 88, 32]⟩, .string ⟨#[65, 88, 32]⟩, .string ⟨#[69, 70, 32]⟩, .string ⟨#[65, 70, 32]⟩, .string ⟨#[69, 71, 32]⟩, .string ⟨#[65, 71, 32]⟩] : Array Value)[(f.kind - 9).toNat]? = some (.string ⟨(shp f.kind).1.toArray⟩)) := Lib.hid (by rcases (show f.kind = 9 ∨ f.kind = 10 ∨ f.kind = 11 ∨ f.kind = 12 ∨ f.kind = 13 ∨ f.kind = 14 by omega) with h | h | h | h | h | h <;> rw [h] <;> rfl)
      have HSH : Hid ((shp f.kind).2.2 = []) := Lib.hid (by rcases (show f.kind = 9 ∨ f.kind = 10 ∨ f.kind = 11 ∨ f.kind = 12 ∨ f.kind = 13 ∨ f.kind = 14 by omega) with h | h | h | h | h | h <;> rw [h] <;> rfl)
      have hsl := (shp_len f.kind).1
      have hwr : IntKind.i64.wrap (f.kind - 9) = f.kind - 9 := IntWalk.i64_in _ (by omega)
      have hi0 : 0 ≤ f.kind - 9 := by omega
      have hi4 : f.kind - 9 < 6 := by omega
      clear h1 h2 h3 h4 hkn hkw hkv hmk hks p0 p1 p2 p3
      go_enter Tryd.func57, Tryd.ntmps57
      go_wp2_with fail
      refine wp_region_noPanic ?_
      refine wp_region_grow (fun W => ((W.cell? ⟨w.heap.size, 0, none⟩ = some (.int .i64 f.kind) ∧ W.cell? ⟨w.heap.size, 3, none⟩ = some (.slice (some ⟨q, o, none⟩) f.kids.length c)) ∧ (W.cell? ⟨q, o, none⟩ = some (.int .i64 k.kind) ∧ W.cell? ⟨q, o + 1, none⟩ = some (.string ⟨k.name.toArray⟩) ∧ W.cell? ⟨q, o + 2, none⟩ = some (.int .i64 k.lit) ∧ W.cell? ⟨q, o + 3, none⟩ = some (.slice Ak k.kids.length ck)))) (Ord.ofList [1, 2, 3, 6, 7, 8, 9] (.fork 0 (Ord.ofList [4, 5, 10, 11, 12] .done) 10 (Ord.ofList [0, 4, 5, 11, 12] .done))) [1, 2, 3, 4, 5, 6, 7, 8, 9, 11, 12] (by kernel_rfl) (by kernel_rfl) rfl (by kernel_rfl) (fun _ _ _ _ _ h => h) ?_ (fun hSS => ?_)
      · exact HSB.out _ (stepD1 _)
      have HW0 := Lib.hid (stepD1 (w.alloc (.cells #[.int .i64 f.kind, .string ⟨f.name.toArray⟩, .int .i64 f.lit, .slice (some ⟨q, o, none⟩) f.kids.length c] 37)))
      clear hSS
      generalize (w.alloc (.cells #[.int .i64 f.kind, .string ⟨f.name.toArray⟩, .int .i64 f.lit, .slice (some ⟨q, o, none⟩) f.kids.length c] 37)).drew = v0 at HW0 ⊢
      (refine wpGrow_mov rfl rfl ?_; intro o ho; simp only [List.getElem?_toArray, List.getElem?_cons_zero, List.getElem?_cons_succ, Option.some.injEq] at ho; subst ho; refine ⟨?_, Or.inl ⟨by rfl, fun W hSW => ?_⟩, ?_⟩; rotate_left; (focus (go_simp; first | done | with_reducible rfl)); try simp only [Act.put, List.setIfInBounds_toArray, List.set_cons_zero, List.set_cons_succ])
      (refine wpGrow_mov rfl rfl ?_; intro o ho; simp only [List.getElem?_toArray, List.getElem?_cons_zero, List.getElem?_cons_succ, Option.some.injEq] at ho; subst ho; refine ⟨?_, Or.inl ⟨by rfl, fun W hSW => ?_⟩, ?_⟩; rotate_left; (focus (go_simp; first | done | with_reducible rfl)); try simp only [Act.put, List.setIfInBounds_toArray, List.set_cons_zero, List.set_cons_succ])
      (refine wpGrow_mov rfl rfl ?_; intro o ho; simp only [List.getElem?_toArray, List.getElem?_cons_zero, List.getElem?_cons_succ, Option.some.injEq] at ho; subst ho; refine ⟨?_, Or.inl ⟨by rfl, fun W hSW => ?_⟩, ?_⟩; rotate_left; (focus (go_simp; first | done | with_reducible rfl)); try simp only [Act.put, List.setIfInBounds_toArray, List.set_cons_zero, List.set_cons_succ])
      (refine wpGrow_mov rfl rfl ?_; intro o ho; simp only [List.getElem?_toArray, List.getElem?_cons_zero, List.getElem?_cons_succ, Option.some.injEq] at ho; subst ho; refine ⟨?_, Or.inl ⟨by rfl, fun W hSW => ?_⟩, ?_⟩; rotate_left; (focus (go_simp; first | done | with_reducible rfl)); try simp only [Act.put, List.setIfInBounds_toArray, List.set_cons_zero, List.set_cons_succ])
      (refine wpGrow_mov rfl rfl ?_; intro o ho; simp only [List.getElem?_toArray, List.getElem?_cons_zero, List.getElem?_cons_succ, Option.some.injEq] at ho; subst ho; refine ⟨?_, Or.inl ⟨by rfl, fun W hSW => ?_⟩, ?_⟩; rotate_left; (focus (go_simp; first | done | with_reducible rfl)); try simp only [Act.put, List.setIfInBounds_toArray, List.set_cons_zero, List.set_cons_succ])
      (refine wpGrow_mov rfl rfl ?_; intro o ho; simp only [List.getElem?_toArray, List.getElem?_cons_zero, List.getElem?_cons_succ, Option.some.injEq] at ho; subst ho; refine ⟨?_, Or.inl ⟨by rfl, fun W hSW => ?_⟩, ?_⟩; rotate_left; (focus (go_simp; first | done | with_reducible rfl)); try simp only [Act.put, List.setIfInBounds_toArray, List.set_cons_zero, List.set_cons_succ])
      (refine wpGrow_mov rfl rfl ?_; intro o ho; simp only [List.getElem?_toArray, List.getElem?_cons_zero, List.getElem?_cons_succ, Option.some.injEq] at ho; subst ho; refine ⟨?_, Or.inl ⟨by rfl, fun W hSW => ?_⟩, ?_⟩; rotate_left; (focus (go_simp; first | done | with_reducible rfl)); try simp only [Act.put, List.setIfInBounds_toArray, List.set_cons_zero, List.set_cons_succ])
      refine wpGrow_fork ?_ ?_
      · skip
        (refine growW_of rfl ?_; intro o ho; simp only [List.getElem?_toArray, List.getElem?_cons_zero, List.getElem?_cons_succ, Option.some.injEq] at ho; subst ho; intro K hK)
        go_simp
        have HW1 := Lib.hid (step2 HW0.out (stepA v0 (.cells #[.string ⟨#[69, 88, 32]⟩, .string ⟨#[65, 88, 32]⟩, .string ⟨#[69, 70, 32]⟩, .string ⟨#[65, 70, 32]⟩, .string ⟨#[69, 71, 32]⟩, .string ⟨#[65, 71, 32]⟩] 9)))
        have HR1 := Lib.hid (Blk.new v0 9 #[.string ⟨#[69, 88, 32]⟩, .string ⟨#[65, 88, 32]⟩, .string ⟨#[69, 70, 32]⟩, .string ⟨#[65, 70, 32]⟩, .string ⟨#[69, 71, 32]⟩, .string ⟨#[65, 71, 32]⟩])
        (refine hK.out _ _ ⟨(fun W => ((W.cell? ⟨w.heap.size, 0, none⟩ = some (.int .i64 f.kind) ∧ W.cell? ⟨w.heap.size, 3, none⟩ = some (.slice (some ⟨q, o, none⟩) f.kids.length c)) ∧ (W.cell? ⟨q, o, none⟩ = some (.int .i64 k.kind) ∧ W.cell? ⟨q, o + 1, none⟩ = some (.string ⟨k.name.toArray⟩) ∧ W.cell? ⟨q, o + 2, none⟩ = some (.int .i64 k.lit) ∧ W.cell? ⟨q, o + 3, none⟩ = some (.slice Ak k.kids.length ck))) ∧ W.cell? ⟨v0.heap.size, (f.kind - 9).toNat, none⟩ = some (.string ⟨(shp f.kind).1.toArray⟩)), (fun _ h => h.1), ⟨HSB.out _ HW1.out, (HR1.out.cell _).trans HROW.out⟩, ?_⟩; clear hK K; try simp only [Act.put, List.setIfInBounds_toArray, List.set_cons_zero, List.set_cons_succ])
        generalize v0.heap.size = rb at HR1 ⊢
        generalize v0.alloc (.cells #[.string ⟨#[69, 88, 32]⟩, .string ⟨#[65, 88, 32]⟩, .string ⟨#[69, 70, 32]⟩, .string ⟨#[65, 70, 32]⟩, .string ⟨#[69, 71, 32]⟩, .string ⟨#[65, 71, 32]⟩] 9) = v1 at HW1 HR1 ⊢
        (refine wpGrow_mov rfl rfl ?_; intro o ho; simp only [List.getElem?_toArray, List.getElem?_cons_zero, List.getElem?_cons_succ, Option.some.injEq] at ho; subst ho; refine ⟨?_, Or.inl ⟨by rfl, fun W hSW => ?_⟩, ?_⟩; rotate_left; (focus (go_simp; first | done | with_reducible rfl)); try simp only [Act.put, List.setIfInBounds_toArray, List.set_cons_zero, List.set_cons_succ])
        (refine wpGrow_mov rfl rfl ?_; intro o ho; simp only [List.getElem?_toArray, List.getElem?_cons_zero, List.getElem?_cons_succ, Option.some.injEq] at ho; subst ho; refine ⟨?_, Or.inl ⟨by rfl, fun W hSW => ?_⟩, ?_⟩; rotate_left; (focus (go_simp; first | done | with_reducible rfl)); try simp only [Act.put, List.setIfInBounds_toArray, List.set_cons_zero, List.set_cons_succ])
        (refine wpGrow_fix rfl rfl ?_; intro o ho; simp only [List.getElem?_toArray, List.getElem?_cons_zero, List.getElem?_cons_succ, Option.some.injEq] at ho; subst ho; intro K hK)
        go_simp
        refine (HCk.out _ HW1.out).mono ?_
        rintro e w2 ⟨tk, rfl, ht, hb⟩
        have htk : tk.size ≤ 100000 := by rw [ba_size, ht]; exact HLk.out
        have HTk := Lib.hid ht
        have hsum1 : ¬ 9223372036854775807 < (shp f.kind).1.length + tk.size := by omega
        have HW2 := Lib.hid (step2 HW1.out hb)
        have HR2 := Lib.hid (HR1.out.below hb HR1.out.lt)
        clear ht hb
        (refine hK.out _ _ ⟨_, (fun _ h => h), ⟨HSB.out _ HW2.out, (HR2.out.cell _).trans HROW.out⟩, ?_⟩; clear hK K; try simp only [Act.put, List.setIfInBounds_toArray, List.set_cons_zero, List.set_cons_succ])
        (refine wpGrow_mov rfl rfl ?_; intro o ho; simp only [List.getElem?_toArray, List.getElem?_cons_zero, List.getElem?_cons_succ, Option.some.injEq] at ho; subst ho; refine ⟨?_, Or.inl ⟨by rfl, fun W hSW => ?_⟩, ?_⟩; rotate_left; (focus (go_simp; first | done | with_reducible rfl)); try simp only [Act.put, List.setIfInBounds_toArray, List.set_cons_zero, List.set_cons_succ])
        (refine wpGrow_mov rfl rfl ?_; intro o ho; simp only [List.getElem?_toArray, List.getElem?_cons_zero, List.getElem?_cons_succ, Option.some.injEq] at ho; subst ho; refine ⟨?_, Or.inl ⟨by rfl, fun W hSW => ?_⟩, ?_⟩; rotate_left; (focus (go_simp; first | done | with_reducible rfl)); try simp only [Act.put, List.setIfInBounds_toArray, List.set_cons_zero, List.set_cons_succ])
        refine wpGrow_done ?_
        go_wp2_with fail
        go_ret
        refine ⟨_, rfl, ?_, step2 HB1.out HW2.out⟩
        rw [HT4.out, HSH.out, ← HTk.out]
        simp [List.append_assoc]
      · skip
        (refine growW_of rfl ?_; intro o ho; simp only [List.getElem?_toArray, List.getElem?_cons_zero, List.getElem?_cons_succ, Option.some.injEq] at ho; subst ho; intro K hK)
        go_simp
        refine (HCk.out _ HW0.out).mono ?_
        rintro e w1 ⟨tk, rfl, ht, hb⟩
        have htk : tk.size ≤ 100000 := by rw [ba_size, ht]; exact HLk.out
        have HTk := Lib.hid ht
        have hsum1 : ¬ 9223372036854775807 < (shp f.kind).1.length + tk.size := by omega
        have HW1 := Lib.hid (step2 HW0.out hb)
        clear ht hb
        (refine hK.out _ _ ⟨_, (fun _ h => h), HSB.out _ HW1.out, ?_⟩; clear hK K; try simp only [Act.put, List.setIfInBounds_toArray, List.set_cons_zero, List.set_cons_succ])
        (refine wpGrow_fix rfl rfl ?_; intro o ho; simp only [List.getElem?_toArray, List.getElem?_cons_zero, List.getElem?_cons_succ, Option.some.injEq] at ho; subst ho; intro K hK)
        go_simp
        have HW2 := Lib.hid (step2 HW1.out (stepA w1 (.cells #[.string ⟨#[69, 88, 32]⟩, .string ⟨#[65, 88, 32]⟩, .string ⟨#[69, 70, 32]⟩, .string ⟨#[65, 70, 32]⟩, .string ⟨#[69, 71, 32]⟩, .string ⟨#[65, 71, 32]⟩] 9)))
        have HR2 := Lib.hid (Blk.new w1 9 #[.string ⟨#[69, 88, 32]⟩, .string ⟨#[65, 88, 32]⟩, .string ⟨#[69, 70, 32]⟩, .string ⟨#[65, 70, 32]⟩, .string ⟨#[69, 71, 32]⟩, .string ⟨#[65, 71, 32]⟩])
        (refine hK.out _ _ ⟨(fun W => ((W.cell? ⟨w.heap.size, 0, none⟩ = some (.int .i64 f.kind) ∧ W.cell? ⟨w.heap.size, 3, none⟩ = some (.slice (some ⟨q, o, none⟩) f.kids.length c)) ∧ (W.cell? ⟨q, o, none⟩ = some (.int .i64 k.kind) ∧ W.cell? ⟨q, o + 1, none⟩ = some (.string ⟨k.name.toArray⟩) ∧ W.cell? ⟨q, o + 2, none⟩ = some (.int .i64 k.lit) ∧ W.cell? ⟨q, o + 3, none⟩ = some (.slice Ak k.kids.length ck))) ∧ W.cell? ⟨w1.heap.size, (f.kind - 9).toNat, none⟩ = some (.string ⟨(shp f.kind).1.toArray⟩)), (fun _ h => h.1), ⟨HSB.out _ HW2.out, (HR2.out.cell _).trans HROW.out⟩, ?_⟩; clear hK K; try simp only [Act.put, List.setIfInBounds_toArray, List.set_cons_zero, List.set_cons_succ])
        generalize w1.heap.size = rb at HR2 ⊢
        generalize w1.alloc (.cells #[.string ⟨#[69, 88, 32]⟩, .string ⟨#[65, 88, 32]⟩, .string ⟨#[69, 70, 32]⟩, .string ⟨#[65, 70, 32]⟩, .string ⟨#[69, 71, 32]⟩, .string ⟨#[65, 71, 32]⟩] 9) = v2 at HW2 HR2 ⊢
        (refine wpGrow_mov rfl rfl ?_; intro o ho; simp only [List.getElem?_toArray, List.getElem?_cons_zero, List.getElem?_cons_succ, Option.some.injEq] at ho; subst ho; refine ⟨?_, Or.inl ⟨by rfl, fun W hSW => ?_⟩, ?_⟩; rotate_left; (focus (go_simp; first | done | with_reducible rfl)); try simp only [Act.put, List.setIfInBounds_toArray, List.set_cons_zero, List.set_cons_succ])
        (refine wpGrow_mov rfl rfl ?_; intro o ho; simp only [List.getElem?_toArray, List.getElem?_cons_zero, List.getElem?_cons_succ, Option.some.injEq] at ho; subst ho; refine ⟨?_, Or.inl ⟨by rfl, fun W hSW => ?_⟩, ?_⟩; rotate_left; (focus (go_simp; first | done | with_reducible rfl)); try simp only [Act.put, List.setIfInBounds_toArray, List.set_cons_zero, List.set_cons_succ])
        (refine wpGrow_mov rfl rfl ?_; intro o ho; simp only [List.getElem?_toArray, List.getElem?_cons_zero, List.getElem?_cons_succ, Option.some.injEq] at ho; subst ho; refine ⟨?_, Or.inl ⟨by rfl, fun W hSW => ?_⟩, ?_⟩; rotate_left; (focus (go_simp; first | done | with_reducible rfl)); try simp only [Act.put, List.setIfInBounds_toArray, List.set_cons_zero, List.set_cons_succ])
        (refine wpGrow_mov rfl rfl ?_; intro o ho; simp only [List.getElem?_toArray, List.getElem?_cons_zero, List.getElem?_cons_succ, Option.some.injEq] at ho; subst ho; refine ⟨?_, Or.inl ⟨by rfl, fun W hSW => ?_⟩, ?_⟩; rotate_left; (focus (go_simp; first | done | with_reducible rfl)); try simp only [Act.put, List.setIfInBounds_toArray, List.set_cons_zero, List.set_cons_succ])
        refine wpGrow_done ?_
        go_wp2_with fail
        go_ret
        refine ⟨_, rfl, ?_, step2 HB1.out HW2.out⟩
        rw [HT4.out, HSH.out, ← HTk.out]
        simp [List.append_assoc]
    have h5 : 15 ≤ f.kind := by omega
    obtain ⟨k, j, hks⟩ := kids_two (f := f) (by rw [hkn]; unfold nk; rw [if_neg (by omega), if_neg (by omega), if_neg (by omega)])
    have hmk : k ∈ f.kids := by rw [hks]; simp
    obtain ⟨q, o, Ak, ck, rfl, hq, ⟨p0, p1, p2, p3⟩, hkv⟩ := HF.out.kids.v (show f.kids[0]? = some k by rw [hks]; rfl)
    have hmj : j ∈ f.kids := by rw [hks]; simp
    obtain ⟨q', o', Aj, cj, e', _, ⟨r0, r1, r2, r3⟩, hjv⟩ := HF.out.kids.v (show f.kids[1]? = some j by rw [hks]; rfl)
    cases e'
    simp only [Nat.zero_mul, Nat.add_zero, Nat.one_mul, Nat.add_assoc, Nat.reduceAdd] at p0 p1 p2 p3 r0 r1 r2 r3
    have HSB : Hid (∀ W, Below (w.alloc (.cells #[.int .i64 f.kind, .string ⟨f.name.toArray⟩, .int .i64 f.lit, .slice (some ⟨q, o, none⟩) f.kids.length c] 37)).heap.size (w.alloc (.cells #[.int .i64 f.kind, .string ⟨f.name.toArray⟩, .int .i64 f.lit, .slice (some ⟨q, o, none⟩) f.kids.length c] 37)) W → ((W.cell? ⟨w.heap.size, 0, none⟩ = some (.int .i64 f.kind) ∧ W.cell? ⟨w.heap.size, 3, none⟩ = some (.slice (some ⟨q, o, none⟩) f.kids.length c)) ∧ (W.cell? ⟨q, o, none⟩ = some (.int .i64 k.kind) ∧ W.cell? ⟨q, o + 1, none⟩ = some (.string ⟨k.name.toArray⟩) ∧ W.cell? ⟨q, o + 2, none⟩ = some (.int .i64 k.lit) ∧ W.cell? ⟨q, o + 3, none⟩ = some (.slice Ak k.kids.length ck)) ∧ (W.cell? ⟨q, o + 4, none⟩ = some (.int .i64 j.kind) ∧ W.cell? ⟨q, o + 5, none⟩ = some (.string ⟨j.name.toArray⟩) ∧ W.cell? ⟨q, o + 6, none⟩ = some (.int .i64 j.lit) ∧ W.cell? ⟨q, o + 7, none⟩ = some (.slice Aj j.kids.length cj)))) := Lib.hid fun W h => by
      have hc := (bcell ((step2 HB1.out h).mono hB)).1 q
      refine ⟨⟨(HX.out.below h (by simp)).cell 0, (HX.out.below h (by simp)).cell 3⟩, ⟨by rw [hc _ hq]; exact p0, by rw [hc _ hq]; exact p1, by rw [hc _ hq]; exact p2, by rw [hc _ hq]; exact p3⟩, ⟨by rw [hc _ hq]; exact r0, by rw [hc _ hq]; exact r1, by rw [hc _ hq]; exact r2, by rw [hc _ hq]; exact r3⟩⟩
    have HCk := Lib.hid (fun W (h : Below (w.alloc (.cells #[.int .i64 f.kind, .string ⟨f.name.toArray⟩, .int .i64 f.lit, .slice (some ⟨q, o, none⟩) f.kids.length c] 37)).heap.size (w.alloc (.cells #[.int .i64 f.kind, .string ⟨f.name.toArray⟩, .int .i64 f.lit, .slice (some ⟨q, o, none⟩) f.kids.length c] 37)) W) => HKID.out k hmk Ak ck hkv W (step2 HB1.out h))
    have HLk := Lib.hid (HKL.out k hmk)
    unfold fmA at HCk
    have HCj := Lib.hid (fun W (h : Below (w.alloc (.cells #[.int .i64 f.kind, .string ⟨f.name.toArray⟩, .int .i64 f.lit, .slice (some ⟨q, o, none⟩) f.kids.length c] 37)).heap.size (w.alloc (.cells #[.int .i64 f.kind, .string ⟨f.name.toArray⟩, .int .i64 f.lit, .slice (some ⟨q, o, none⟩) f.kids.length c] 37)) W) => HKID.out j hmj Aj cj hjv W (step2 HB1.out h))
    have HLj := Lib.hid (HKL.out j hmj)
    unfold fmA at HCj
    have hlen : 0 < f.kids.length := by rw [hks]; simp
    have hlen1 : (1 : Int) < (f.kids.length : Int) := by rw [hks]; simp
    have HT4 : Hid (f.txt = (shp f.kind).1 ++ (k.part ++ ((shp f.kind).2.1 ++ (j.part ++ (shp f.kind).2.2)))) := Lib.hid (by rw [HTX.out, hks]; simp [joinB])
    have HROW1 : Hid ((#[.string ⟨#[69, 32, 91]⟩, .string ⟨#[65, 32, 91]⟩, .string ⟨#[69, 32, 91]⟩, .string ⟨#[65, 32, 91]⟩] : Array Value)[(f.kind - 15).toNat]? = some (.string ⟨(shp f.kind).1.toArray⟩)) := Lib.hid (by rcases (show f.kind = 15 ∨ f.kind = 16 ∨ f.kind = 17 ∨ f.kind = 18 by omega) with h | h | h | h <;> rw [h] <;> rfl)
    have HROW2 : Hid ((#[.string ⟨#[32, 85, 32]⟩, .string ⟨#[32, 85, 32]⟩, .string ⟨#[32, 82, 32]⟩, .string ⟨#[32, 82, 32]⟩] : Array Value)[(f.kind - 15).toNat]? = some (.string ⟨(shp f.kind).2.1.toArray⟩)) := Lib.hid (by rcases (show f.kind = 15 ∨ f.kind = 16 ∨ f.kind = 17 ∨ f.kind = 18 by omega) with h | h | h | h <;> rw [h] <;> rfl)
    have HSH : Hid ((shp f.kind).2.2 = [93]) := Lib.hid (by rcases (show f.kind = 15 ∨ f.kind = 16 ∨ f.kind = 17 ∨ f.kind = 18 by omega) with h | h | h | h <;> rw [h] <;> rfl)
    obtain ⟨hsl1, hsl2, hsl3⟩ := shp_len f.kind
    have hwr : IntKind.i64.wrap (f.kind - 15) = f.kind - 15 := IntWalk.i64_in _ (by omega)
    have hi0 : 0 ≤ f.kind - 15 := by omega
    have hi4 : f.kind - 15 < 4 := by omega
    have HZ1 := Lib.hid (stepA (w.alloc (.cells #[.int .i64 f.kind, .string ⟨f.name.toArray⟩, .int .i64 f.lit, .slice (some ⟨q, o, none⟩) f.kids.length c] 37)) (.cells #[.string ⟨#[69, 32, 91]⟩, .string ⟨#[65, 32, 91]⟩, .string ⟨#[69, 32, 91]⟩, .string ⟨#[65, 32, 91]⟩] 9))
    have HZ2 := Lib.hid (step2 HZ1.out (stepA ((w.alloc (.cells #[.int .i64 f.kind, .string ⟨f.name.toArray⟩, .int .i64 f.lit, .slice (some ⟨q, o, none⟩) f.kids.length c] 37)).alloc (.cells #[.string ⟨#[69, 32, 91]⟩, .string ⟨#[65, 32, 91]⟩, .string ⟨#[69, 32, 91]⟩, .string ⟨#[65, 32, 91]⟩] 9)) (.cells #[.string ⟨#[32, 85, 32]⟩, .string ⟨#[32, 85, 32]⟩, .string ⟨#[32, 82, 32]⟩, .string ⟨#[32, 82, 32]⟩] 9)))
    have z1 := ((Blk.new (w.alloc (.cells #[.int .i64 f.kind, .string ⟨f.name.toArray⟩, .int .i64 f.lit, .slice (some ⟨q, o, none⟩) f.kids.length c] 37)) 9 #[.string ⟨#[69, 32, 91]⟩, .string ⟨#[65, 32, 91]⟩, .string ⟨#[69, 32, 91]⟩, .string ⟨#[65, 32, 91]⟩]).cell (f.kind - 15).toNat).trans HROW1.out
    have z2 := ((Blk.new ((w.alloc (.cells #[.int .i64 f.kind, .string ⟨f.name.toArray⟩, .int .i64 f.lit, .slice (some ⟨q, o, none⟩) f.kids.length c] 37)).alloc (.cells #[.string ⟨#[69, 32, 91]⟩, .string ⟨#[65, 32, 91]⟩, .string ⟨#[69, 32, 91]⟩, .string ⟨#[65, 32, 91]⟩] 9)) 9 #[.string ⟨#[32, 85, 32]⟩, .string ⟨#[32, 85, 32]⟩, .string ⟨#[32, 82, 32]⟩, .string ⟨#[32, 82, 32]⟩]).cell (f.kind - 15).toNat).trans HROW2.out
    have y1 := (HSB.out _ HZ1.out).1.1
    have y2 := (HSB.out _ HZ2.out).1.1
    simp only [World.size_alloc] at z1 z2
    clear h1 h2 h3 h4 h8 h14 hkn hkw hkv hjv hmk hmj hks p0 p1 p2 p3 r0 r1 r2 r3
    go_enter Tryd.func57, Tryd.ntmps57
    go_wp2_with fail
    refine wp_region_noPanic ?_
    refine wp_region_grow (fun W => ((W.cell? ⟨w.heap.size, 0, none⟩ = some (.int .i64 f.kind) ∧ W.cell? ⟨w.heap.size, 3, none⟩ = some (.slice (some ⟨q, o, none⟩) f.kids.length c)) ∧ (W.cell? ⟨q, o, none⟩ = some (.int .i64 k.kind) ∧ W.cell? ⟨q, o + 1, none⟩ = some (.string ⟨k.name.toArray⟩) ∧ W.cell? ⟨q, o + 2, none⟩ = some (.int .i64 k.lit) ∧ W.cell? ⟨q, o + 3, none⟩ = some (.slice Ak k.kids.length ck)) ∧ (W.cell? ⟨q, o + 4, none⟩ = some (.int .i64 j.kind) ∧ W.cell? ⟨q, o + 5, none⟩ = some (.string ⟨j.name.toArray⟩) ∧ W.cell? ⟨q, o + 6, none⟩ = some (.int .i64 j.lit) ∧ W.cell? ⟨q, o + 7, none⟩ = some (.slice Aj j.kids.length cj)))) (Ord.ofList [0, 1, 2, 3, 4, 7, 9, 10, 11, 12, 5, 6, 8, 13, 14, 15, 16] .done) [0, 1, 2, 3, 4, 6, 7, 8, 9, 10, 11, 12, 14, 15, 16] (by kernel_rfl) (by kernel_rfl) rfl (by kernel_rfl) (fun _ _ _ _ _ h => h) ?_ (fun hSS => ?_)
    · exact HSB.out _ (step2 HZ2.out (stepD1 _))
    have HW0 := Lib.hid (step2 HZ2.out (stepD1 (((w.alloc (.cells #[.int .i64 f.kind, .string ⟨f.name.toArray⟩, .int .i64 f.lit, .slice (some ⟨q, o, none⟩) f.kids.length c] 37)).alloc (.cells #[.string ⟨#[69, 32, 91]⟩, .string ⟨#[65, 32, 91]⟩, .string ⟨#[69, 32, 91]⟩, .string ⟨#[65, 32, 91]⟩] 9)).alloc (.cells #[.string ⟨#[32, 85, 32]⟩, .string ⟨#[32, 85, 32]⟩, .string ⟨#[32, 82, 32]⟩, .string ⟨#[32, 82, 32]⟩] 9))))
    clear hSS z1 z2 y1 y2
    generalize (((w.alloc (.cells #[.int .i64 f.kind, .string ⟨f.name.toArray⟩, .int .i64 f.lit, .slice (some ⟨q, o, none⟩) f.kids.length c] 37)).alloc (.cells #[.string ⟨#[69, 32, 91]⟩, .string ⟨#[65, 32, 91]⟩, .string ⟨#[69, 32, 91]⟩, .string ⟨#[65, 32, 91]⟩] 9)).alloc (.cells #[.string ⟨#[32, 85, 32]⟩, .string ⟨#[32, 85, 32]⟩, .string ⟨#[32, 82, 32]⟩, .string ⟨#[32, 82, 32]⟩] 9)).drew = v0 at HW0 ⊢
    (refine wpGrow_mov rfl rfl ?_; intro o ho; simp only [List.getElem?_toArray, List.getElem?_cons_zero, List.getElem?_cons_succ, Option.some.injEq] at ho; subst ho; refine ⟨?_, Or.inl ⟨by rfl, fun W hSW => ?_⟩, ?_⟩; rotate_left; (focus (go_simp; first | done | with_reducible rfl)); try simp only [Act.put, List.setIfInBounds_toArray, List.set_cons_zero, List.set_cons_succ])
    (refine wpGrow_mov rfl rfl ?_; intro o ho; simp only [List.getElem?_toArray, List.getElem?_cons_zero, List.getElem?_cons_succ, Option.some.injEq] at ho; subst ho; refine ⟨?_, Or.inl ⟨by rfl, fun W hSW => ?_⟩, ?_⟩; rotate_left; (focus (go_simp; first | done | with_reducible rfl)); try simp only [Act.put, List.setIfInBounds_toArray, List.set_cons_zero, List.set_cons_succ])
    (refine wpGrow_mov rfl rfl ?_; intro o ho; simp only [List.getElem?_toArray, List.getElem?_cons_zero, List.getElem?_cons_succ, Option.some.injEq] at ho; subst ho; refine ⟨?_, Or.inl ⟨by rfl, fun W hSW => ?_⟩, ?_⟩; rotate_left; (focus (go_simp; first | done | with_reducible rfl)); try simp only [Act.put, List.setIfInBounds_toArray, List.set_cons_zero, List.set_cons_succ])
    (refine wpGrow_mov rfl rfl ?_; intro o ho; simp only [List.getElem?_toArray, List.getElem?_cons_zero, List.getElem?_cons_succ, Option.some.injEq] at ho; subst ho; refine ⟨?_, Or.inl ⟨by rfl, fun W hSW => ?_⟩, ?_⟩; rotate_left; (focus (go_simp; first | done | with_reducible rfl)); try simp only [Act.put, List.setIfInBounds_toArray, List.set_cons_zero, List.set_cons_succ])
    (refine wpGrow_mov rfl rfl ?_; intro o ho; simp only [List.getElem?_toArray, List.getElem?_cons_zero, List.getElem?_cons_succ, Option.some.injEq] at ho; subst ho; refine ⟨?_, Or.inl ⟨by rfl, fun W hSW => ?_⟩, ?_⟩; rotate_left; (focus (go_simp; first | done | with_reducible rfl)); try simp only [Act.put, List.setIfInBounds_toArray, List.set_cons_zero, List.set_cons_succ])
    (refine wpGrow_mov rfl rfl ?_; intro o ho; simp only [List.getElem?_toArray, List.getElem?_cons_zero, List.getElem?_cons_succ, Option.some.injEq] at ho; subst ho; refine ⟨?_, Or.inl ⟨by rfl, fun W hSW => ?_⟩, ?_⟩; rotate_left; (focus (go_simp; first | done | with_reducible rfl)); try simp only [Act.put, List.setIfInBounds_toArray, List.set_cons_zero, List.set_cons_succ])
    (refine wpGrow_mov rfl rfl ?_; intro o ho; simp only [List.getElem?_toArray, List.getElem?_cons_zero, List.getElem?_cons_succ, Option.some.injEq] at ho; subst ho; refine ⟨?_, Or.inl ⟨by rfl, fun W hSW => ?_⟩, ?_⟩; rotate_left; (focus (go_simp; first | done | with_reducible rfl)); try simp only [Act.put, List.setIfInBounds_toArray, List.set_cons_zero, List.set_cons_succ])
    (refine wpGrow_mov rfl rfl ?_; intro o ho; simp only [List.getElem?_toArray, List.getElem?_cons_zero, List.getElem?_cons_succ, Option.some.injEq] at ho; subst ho; refine ⟨?_, Or.inl ⟨by rfl, fun W hSW => ?_⟩, ?_⟩; rotate_left; (focus (go_simp; first | done | with_reducible rfl)); try simp only [Act.put, List.setIfInBounds_toArray, List.set_cons_zero, List.set_cons_succ])
    (refine wpGrow_mov rfl rfl ?_; intro o ho; simp only [List.getElem?_toArray, List.getElem?_cons_zero, List.getElem?_cons_succ, Option.some.injEq] at ho; subst ho; refine ⟨?_, Or.inl ⟨by rfl, fun W hSW => ?_⟩, ?_⟩; rotate_left; (focus (go_simp; first | done | with_reducible rfl)); try simp only [Act.put, List.setIfInBounds_toArray, List.set_cons_zero, List.set_cons_succ])
    (refine wpGrow_mov rfl rfl ?_; intro o ho; simp only [List.getElem?_toArray, List.getElem?_cons_zero, List.getElem?_cons_succ, Option.some.injEq] at ho; subst ho; refine ⟨?_, Or.inl ⟨by rfl, fun W hSW => ?_⟩, ?_⟩; rotate_left; (focus (go_simp; first | done | with_reducible rfl)); try simp only [Act.put, List.setIfInBounds_toArray, List.set_cons_zero, List.set_cons_succ])
    (refine wpGrow_fix rfl rfl ?_; intro o ho; simp only [List.getElem?_toArray, List.getElem?_cons_zero, List.getElem?_cons_succ, Option.some.injEq] at ho; subst ho; intro K hK)
    go_simp
    refine (HCk.out _ HW0.out).mono ?_
    rintro e w1 ⟨tk, rfl, ht, hb⟩
    have htk : tk.size ≤ 100000 := by rw [ba_size, ht]; exact HLk.out
    have HTk := Lib.hid ht
    have hsum1 : ¬ 9223372036854775807 < (shp f.kind).1.length + tk.size := by omega
    have hsum2 : ¬ 9223372036854775807 < (shp f.kind).1.length + tk.size + (shp f.kind).2.1.length := by omega
    have HW1 := Lib.hid (step2 HW0.out hb)
    clear ht hb
    (refine hK.out _ _ ⟨_, (fun _ h => h), HSB.out _ HW1.out, ?_⟩; clear hK K; try simp only [Act.put, List.setIfInBounds_toArray, List.set_cons_zero, List.set_cons_succ])
    (refine wpGrow_mov rfl rfl ?_; intro o ho; simp only [List.getElem?_toArray, List.getElem?_cons_zero, List.getElem?_cons_succ, Option.some.injEq] at ho; subst ho; refine ⟨?_, Or.inl ⟨by rfl, fun W hSW => ?_⟩, ?_⟩; rotate_left; (focus (go_simp; first | done | with_reducible rfl)); try simp only [Act.put, List.setIfInBounds_toArray, List.set_cons_zero, List.set_cons_succ])
    (refine wpGrow_mov rfl rfl ?_; intro o ho; simp only [List.getElem?_toArray, List.getElem?_cons_zero, List.getElem?_cons_succ, Option.some.injEq] at ho; subst ho; refine ⟨?_, Or.inl ⟨by rfl, fun W hSW => ?_⟩, ?_⟩; rotate_left; (focus (go_simp; first | done | with_reducible rfl)); try simp only [Act.put, List.setIfInBounds_toArray, List.set_cons_zero, List.set_cons_succ])
    (refine wpGrow_fix rfl rfl ?_; intro o ho; simp only [List.getElem?_toArray, List.getElem?_cons_zero, List.getElem?_cons_succ, Option.some.injEq] at ho; subst ho; intro K hK)
    go_simp
    refine (HCj.out _ HW1.out).mono ?_
    rintro e w2 ⟨tj, rfl, ht, hb⟩
    have htj : tj.size ≤ 100000 := by rw [ba_size, ht]; exact HLj.out
    have HTj := Lib.hid ht
    have hsum3 : ¬ 9223372036854775807 < (shp f.kind).1.length + tk.size + (shp f.kind).2.1.length + tj.size := by omega
    have hsum4 : ¬ 9223372036854775807 < (shp f.kind).1.length + tk.size + (shp f.kind).2.1.length + tj.size + 1 := by omega
    have HW2 := Lib.hid (step2 HW1.out hb)
    clear ht hb
    (refine hK.out _ _ ⟨_, (fun _ h => h), HSB.out _ HW2.out, ?_⟩; clear hK K; try simp only [Act.put, List.setIfInBounds_toArray, List.set_cons_zero, List.set_cons_succ])
    (refine wpGrow_mov rfl rfl ?_; intro o ho; simp only [List.getElem?_toArray, List.getElem?_cons_zero, List.getElem?_cons_succ, Option.some.injEq] at ho; subst ho; refine ⟨?_, Or.inl ⟨by rfl, fun W hSW => ?_⟩, ?_⟩; rotate_left; (focus (go_simp; first | done | with_reducible rfl)); try simp only [Act.put, List.setIfInBounds_toArray, List.set_cons_zero, List.set_cons_succ])
    (refine wpGrow_mov rfl rfl ?_; intro o ho; simp only [List.getElem?_toArray, List.getElem?_cons_zero, List.getElem?_cons_succ, Option.some.injEq] at ho; subst ho; refine ⟨?_, Or.inl ⟨by rfl, fun W hSW => ?_⟩, ?_⟩; rotate_left; (focus (go_simp; first | done | with_reducible rfl)); try simp only [Act.put, List.setIfInBounds_toArray, List.set_cons_zero, List.set_cons_succ])
    (refine wpGrow_mov rfl rfl ?_; intro o ho; simp only [List.getElem?_toArray, List.getElem?_cons_zero, List.getElem?_cons_succ, Option.some.injEq] at ho; subst ho; refine ⟨?_, Or.inl ⟨by rfl, fun W hSW => ?_⟩, ?_⟩; rotate_left; (focus (go_simp; first | done | with_reducible rfl)); try simp only [Act.put, List.setIfInBounds_toArray, List.set_cons_zero, List.set_cons_succ])
    refine wpGrow_done ?_
    go_wp2_with fail
    go_ret
    refine ⟨_, rfl, ?_, step2 HB1.out HW2.out⟩
    rw [HT4.out, HSH.out, ← HTk.out, ← HTj.out]
    simp [List.append_assoc]
end Go.Proofs.YtijecfmblddanaaDoor
