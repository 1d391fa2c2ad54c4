/- Layer 15: SatXor. -/
import Derived.Test.YtbkmgblijncjhaaG7
import Derived.Test.YtbkmgblijncjhaaG9
import Derived.Test.YtbkmgblijncjhaaG8
import Derived.Test.YtbkmgblijncjhaaG1
set_option linter.unusedVariables false
set_option linter.unusedSimpArgs false
namespace Go.Proofs.Ytbkmgblijncjhaa
open Go.RowKit Go.Maps

def xorC (V x : Int) : List (List Int) := if 128 ≤ x then [[1 + x % V, -(1 + x / 8 % V)], [-(1 + x % V), 1 + x / 8 % V]] else [[1 + x % V, 1 + x / 8 % V], [-(1 + x % V), -(1 + x / 8 % V)]]
def xorK (V : Int) (xs : List Int) : List (List Int) := (xs.take 8).flatMap (xorC V)
theorem xorK_succ {V : Int} {xs : List Int} {k : Nat} {x : Int} (h : xs[k]? = some x) (hk : k < 8) : xorK V (xs.take (k + 1)) = xorK V (xs.take k) ++ xorC V x := by
  unfold xorK
  rw [List.take_take, List.take_take, Nat.min_eq_right (by omega), Nat.min_eq_right (by omega), List.take_add_one, h, List.flatMap_append]
  simp
theorem xorC_len (V x : Int) : (xorC V x).length = 2 := by
  unfold xorC
  split <;> rfl
theorem xorK_len (V : Int) (xs : List Int) : (xorK V xs).length ≤ 16 := by
  have : ∀ l : List Int, (l.flatMap (xorC V)).length = 2 * l.length := by
    intro l
    induction l with
    | nil => rfl
    | cons a l ih => rw [List.flatMap_cons, List.length_append, ih, xorC_len, List.length_cons]; omega
  unfold xorK
  rw [this, List.length_take]
  omega
theorem xorK_small (V : Int) (xs : List Int) : ∀ c ∈ xorK V xs, c.length = 2 := by
  intro c hc
  obtain ⟨x, _, h⟩ := List.mem_flatMap.1 hc
  unfold xorC at h
  split at h <;> simp at h <;> rcases h with rfl | rfl <;> rfl

set_option maxRecDepth 100000 in
set_option maxHeartbeats 8000000 in
theorem satXor_any (n : Int) (xs : List Int) (A : Option Addr) (c : Nat) (w : World) (hn : 0 ≤ n ∧ n ≤ 255) (hx : ∀ x ∈ xs, 0 ≤ x ∧ x ≤ 255) (hc : xs.length ≤ c) (hcl : c ≤ 140737488355328) (hp : Vals w w.heap.size A (u8k xs)) :
    Calls Try.prog 9 #[.int .u8 n, .slice A xs.length c] w (Ret w (.bool true)) := by
  have hnot := @not_run Try.prog
  obtain ⟨n0, n1⟩ := hn
  have HP := Lib.hid hp
  have HX := Lib.hid hx
  have ht7 : n.tmod 7 = n % 7 := Int.tmod_eq_emod_of_nonneg n0
  clear hp hx
  go_enter Try.func9, Try.ntmps9
  go_wp2_with fail
  refine (awake15_any _).mono ?_
  rintro e w1 ⟨rfl, hb⟩
  have HL1 := Lib.hid ((Low.refl w).step hb)
  clear hb
  obtain ⟨V, hV⟩ : ∃ V, V = 2 + n % 7 := ⟨_, rfl⟩
  have hV1 : 1 ≤ V := by omega
  have hV9 : V ≤ 9 := by omega
  have HV := Lib.hid hV
  clear hV
  go_wp2_with fail
  rw [← HV.out]
  have hS0 := XSt.new w1 V
  go_loopw [7] (fun i wr => ∃ (k : Nat) (B : Option Addr) (d : Nat) (zs : Ks), k ≤ 8 ∧ k ≤ xs.length ∧ i = .int .i64 k ∧ XSt w1 wr w1.heap.size V (xorK V (xs.take k)) B d zs) (fun i _ => 8 - (intOf i).toNat)
  case atStart => exact ⟨0, none, 0, [], by omega, by omega, rfl, hS0⟩
  case round =>
    obtain ⟨k, B, d, zs, hk8, hk, rfl, hst⟩ := hrel
    have HS := Lib.hid hst
    have hs := HS.out.low.size
    have hzl : zs.length ≤ 16 := by
      rw [HS.out.len]
      exact xorK_len _ _
    clear hst hS0
    by_cases hlt : k < xs.length
    · have hlt' : (k : Int) < (xs.length : Int) := by omega
      by_cases h8 : k < 8
      · have h8' : (k : Int) < 8 := by omega
        obtain ⟨x, hxk⟩ : ∃ x, xs[k]? = some x := ⟨_, List.getElem?_eq_getElem hlt⟩
        obtain ⟨x0, x1⟩ := HX.out x (List.mem_of_getElem? hxk)
        obtain ⟨b, o, rfl, _, q1⟩ := (HP.out.after (step2 HL1.out.b HS.out.low.b)) k _ (u8k_at hxk)
        have HSU := Lib.hid (xorK_succ (V := V) hxk h8)
        have HQ1 := Lib.hid ((HP.out.after (step2 HL1.out.b (HS.out.low.b.drew))) k _ (u8k_at hxk))
        have HXK := Lib.hid hxk
        have HC0 := Lib.hid ((HS.out.box.step (stepD1 wr)).cell 0)
        clear hxk
        go_wp2_with fail
        refine wp_region_noPanic ?_
        refine wp_region_seq (fun W => W.cell? ⟨b, o + k, none⟩ = some (.int .u8 x) ∧ W.cell? ⟨w1.heap.size, 0, none⟩ = some (.int .i64 V)) [0, 1, 2, 3, 4, 5, 6, 7, 8, 9, 10, 11, 12, 13, 14, 15, 16, 17, 18, 19, 20] [0, 1, 2, 3, 4, 5, 6, 7, 8, 9, 10, 11, 12, 13, 14, 15, 16, 17, 18, 19, 20] [] (by kernel_rfl) (by kernel_rfl) rfl (by kernel_rfl) (by kernel_rfl) (fun _ _ _ _ _ h => h) ?_ (fun hSS => ?_)
        · obtain ⟨b2, o2, e2, _, q2⟩ := HQ1.out
          cases e2
          exact ⟨q2, HC0.out⟩
        have HS2 := Lib.hid (HS.out.step (stepD1 wr))
        clear hSS HS HQ1 HC0 q1
        generalize wr.drew = w3 at HS2 ⊢
        have hs3 := HS2.out.low.size
        have hV0 : ¬ V = 0 := by omega
        have ht1 : x.tmod V = x % V := Int.tmod_eq_emod_of_nonneg x0
        have ht2 : (x / 8).tmod V = x / 8 % V := Int.tmod_eq_emod_of_nonneg (by omega)
        have hd8 : x.tdiv 8 = x / 8 := Int.tdiv_eq_ediv_of_nonneg x0
        have hm1 := Int.emod_nonneg x (by omega : V ≠ 0)
        have hm2 := Int.emod_lt_of_pos x (by omega : 0 < V)
        have hm3 := Int.emod_nonneg (x / 8) (by omega : V ≠ 0)
        have hm4 := Int.emod_lt_of_pos (x / 8) (by omega : 0 < V)
        have hw1 : IntKind.i64.wrap (1 + x % V) = 1 + x % V := IntWalk.i64_in _ (by omega)
        have hw2 : IntKind.i64.wrap (1 + x / 8 % V) = 1 + x / 8 % V := IntWalk.i64_in _ (by omega)
        have hwx : IntKind.i64.wrap x = x := IntWalk.i64_in _ (by omega)
        have hwd : IntKind.i64.wrap (x / 8) = x / 8 := IntWalk.i64_in _ (by omega)
        have hwd2 : IntKind.i64.wrap (x.tdiv 8) = x / 8 := by rw [hd8]; exact hwd
        (refine wpSeq_mov rfl rfl ?_; intro o ho; simp only [List.getElem?_toArray, List.getElem?_cons_zero, List.getElem?_cons_succ, Option.some.injEq] at ho; subst ho; refine ⟨?_, Or.inl ⟨by rfl, fun W hSW => ?_⟩, ?_⟩; rotate_left; (focus (go_simp; first | done | with_reducible rfl)); try simp only [Act.put, List.setIfInBounds_toArray, List.set_cons_zero, List.set_cons_succ])
        (refine wpSeq_mov rfl rfl ?_; intro o ho; simp only [List.getElem?_toArray, List.getElem?_cons_zero, List.getElem?_cons_succ, Option.some.injEq] at ho; subst ho; refine ⟨?_, Or.inl ⟨by rfl, fun W hSW => ?_⟩, ?_⟩; rotate_left; (focus (go_simp; first | done | with_reducible rfl)); try simp only [Act.put, List.setIfInBounds_toArray, List.set_cons_zero, List.set_cons_succ])
        (refine wpSeq_mov rfl rfl ?_; intro o ho; simp only [List.getElem?_toArray, List.getElem?_cons_zero, List.getElem?_cons_succ, Option.some.injEq] at ho; subst ho; refine ⟨?_, Or.inl ⟨by rfl, fun W hSW => ?_⟩, ?_⟩; rotate_left; (focus (go_simp; first | done | with_reducible rfl)); try simp only [Act.put, List.setIfInBounds_toArray, List.set_cons_zero, List.set_cons_succ])
        (refine wpSeq_mov rfl rfl ?_; intro o ho; simp only [List.getElem?_toArray, List.getElem?_cons_zero, List.getElem?_cons_succ, Option.some.injEq] at ho; subst ho; refine ⟨?_, Or.inl ⟨by rfl, fun W hSW => ?_⟩, ?_⟩; rotate_left; (focus (go_simp; first | done | with_reducible rfl)); try simp only [Act.put, List.setIfInBounds_toArray, List.set_cons_zero, List.set_cons_succ])
        (refine wpSeq_mov rfl rfl ?_; intro o ho; simp only [List.getElem?_toArray, List.getElem?_cons_zero, List.getElem?_cons_succ, Option.some.injEq] at ho; subst ho; refine ⟨?_, Or.inl ⟨by rfl, fun W hSW => ?_⟩, ?_⟩; rotate_left; (focus (go_simp; first | done | with_reducible rfl)); try simp only [Act.put, List.setIfInBounds_toArray, List.set_cons_zero, List.set_cons_succ])
        (refine wpSeq_mov rfl rfl ?_; intro o ho; simp only [List.getElem?_toArray, List.getElem?_cons_zero, List.getElem?_cons_succ, Option.some.injEq] at ho; subst ho; refine ⟨?_, Or.inl ⟨by rfl, fun W hSW => ?_⟩, ?_⟩; rotate_left; (focus (go_simp; first | done | with_reducible rfl)); try simp only [Act.put, List.setIfInBounds_toArray, List.set_cons_zero, List.set_cons_succ])
        (refine wpSeq_mov rfl rfl ?_; intro o ho; simp only [List.getElem?_toArray, List.getElem?_cons_zero, List.getElem?_cons_succ, Option.some.injEq] at ho; subst ho; refine ⟨?_, Or.inl ⟨by rfl, fun W hSW => ?_⟩, ?_⟩; rotate_left; (focus (go_simp; first | done | with_reducible rfl)); try simp only [Act.put, List.setIfInBounds_toArray, List.set_cons_zero, List.set_cons_succ])
        (refine wpSeq_mov rfl rfl ?_; intro o ho; simp only [List.getElem?_toArray, List.getElem?_cons_zero, List.getElem?_cons_succ, Option.some.injEq] at ho; subst ho; refine ⟨?_, Or.inl ⟨by rfl, fun W hSW => ?_⟩, ?_⟩; rotate_left; (focus (go_simp; first | done | with_reducible rfl)); try simp only [Act.put, List.setIfInBounds_toArray, List.set_cons_zero, List.set_cons_succ])
        (refine wpSeq_mov rfl rfl ?_; intro o ho; simp only [List.getElem?_toArray, List.getElem?_cons_zero, List.getElem?_cons_succ, Option.some.injEq] at ho; subst ho; refine ⟨?_, Or.inl ⟨by rfl, fun W hSW => ?_⟩, ?_⟩; rotate_left; (focus (go_simp; first | done | with_reducible rfl)); try simp only [Act.put, List.setIfInBounds_toArray, List.set_cons_zero, List.set_cons_succ])
        (refine wpSeq_mov rfl rfl ?_; intro o ho; simp only [List.getElem?_toArray, List.getElem?_cons_zero, List.getElem?_cons_succ, Option.some.injEq] at ho; subst ho; refine ⟨?_, Or.inl ⟨by rfl, fun W hSW => ?_⟩, ?_⟩; rotate_left; (focus (go_simp; first | done | with_reducible rfl)); try simp only [Act.put, List.setIfInBounds_toArray, List.set_cons_zero, List.set_cons_succ])
        (refine wpSeq_mov rfl rfl ?_; intro o ho; simp only [List.getElem?_toArray, List.getElem?_cons_zero, List.getElem?_cons_succ, Option.some.injEq] at ho; subst ho; refine ⟨?_, Or.inl ⟨by rfl, fun W hSW => ?_⟩, ?_⟩; rotate_left; (focus (go_simp; first | done | with_reducible rfl)); try simp only [Act.put, List.setIfInBounds_toArray, List.set_cons_zero, List.set_cons_succ])
        (refine wpSeq_mov rfl rfl ?_; intro o ho; simp only [List.getElem?_toArray, List.getElem?_cons_zero, List.getElem?_cons_succ, Option.some.injEq] at ho; subst ho; refine ⟨?_, Or.inl ⟨by rfl, fun W hSW => ?_⟩, ?_⟩; rotate_left; (focus (go_simp; first | done | with_reducible rfl)); try simp only [Act.put, List.setIfInBounds_toArray, List.set_cons_zero, List.set_cons_succ])
        (refine wpSeq_mov rfl rfl ?_; intro o ho; simp only [List.getElem?_toArray, List.getElem?_cons_zero, List.getElem?_cons_succ, Option.some.injEq] at ho; subst ho; refine ⟨?_, Or.inl ⟨by rfl, fun W hSW => ?_⟩, ?_⟩; rotate_left; (focus (go_simp; first | done | with_reducible rfl)); try simp only [Act.put, List.setIfInBounds_toArray, List.set_cons_zero, List.set_cons_succ])
        (refine wpSeq_mov rfl rfl ?_; intro o ho; simp only [List.getElem?_toArray, List.getElem?_cons_zero, List.getElem?_cons_succ, Option.some.injEq] at ho; subst ho; refine ⟨?_, Or.inl ⟨by rfl, fun W hSW => ?_⟩, ?_⟩; rotate_left; (focus (go_simp; first | done | with_reducible rfl)); try simp only [Act.put, List.setIfInBounds_toArray, List.set_cons_zero, List.set_cons_succ])
        (refine wpSeq_mov rfl rfl ?_; intro o ho; simp only [List.getElem?_toArray, List.getElem?_cons_zero, List.getElem?_cons_succ, Option.some.injEq] at ho; subst ho; refine ⟨?_, Or.inl ⟨by rfl, fun W hSW => ?_⟩, ?_⟩; rotate_left; (focus (go_simp; first | done | with_reducible rfl)); try simp only [Act.put, List.setIfInBounds_toArray, List.set_cons_zero, List.set_cons_succ])
        (refine wpSeq_mov rfl rfl ?_; intro o ho; simp only [List.getElem?_toArray, List.getElem?_cons_zero, List.getElem?_cons_succ, Option.some.injEq] at ho; subst ho; refine ⟨?_, Or.inl ⟨by rfl, fun W hSW => ?_⟩, ?_⟩; rotate_left; (focus (go_simp; first | done | with_reducible rfl)); try simp only [Act.put, List.setIfInBounds_toArray, List.set_cons_zero, List.set_cons_succ])
        (refine wpSeq_mov rfl rfl ?_; intro o ho; simp only [List.getElem?_toArray, List.getElem?_cons_zero, List.getElem?_cons_succ, Option.some.injEq] at ho; subst ho; refine ⟨?_, Or.inl ⟨by rfl, fun W hSW => ?_⟩, ?_⟩; rotate_left; (focus (go_simp; first | done | with_reducible rfl)); try simp only [Act.put, List.setIfInBounds_toArray, List.set_cons_zero, List.set_cons_succ])
        (refine wpSeq_mov rfl rfl ?_; intro o ho; simp only [List.getElem?_toArray, List.getElem?_cons_zero, List.getElem?_cons_succ, Option.some.injEq] at ho; subst ho; refine ⟨?_, Or.inl ⟨by rfl, fun W hSW => ?_⟩, ?_⟩; rotate_left; (focus (go_simp; first | done | with_reducible rfl)); try simp only [Act.put, List.setIfInBounds_toArray, List.set_cons_zero, List.set_cons_succ])
        (refine wpSeq_mov rfl rfl ?_; intro o ho; simp only [List.getElem?_toArray, List.getElem?_cons_zero, List.getElem?_cons_succ, Option.some.injEq] at ho; subst ho; refine ⟨?_, Or.inl ⟨by rfl, fun W hSW => ?_⟩, ?_⟩; rotate_left; (focus (go_simp; first | done | with_reducible rfl)); try simp only [Act.put, List.setIfInBounds_toArray, List.set_cons_zero, List.set_cons_succ])
        (refine wpSeq_mov rfl rfl ?_; intro o ho; simp only [List.getElem?_toArray, List.getElem?_cons_zero, List.getElem?_cons_succ, Option.some.injEq] at ho; subst ho; refine ⟨?_, Or.inl ⟨by rfl, fun W hSW => ?_⟩, ?_⟩; rotate_left; (focus (go_simp; first | done | with_reducible rfl)); try simp only [Act.put, List.setIfInBounds_toArray, List.set_cons_zero, List.set_cons_succ])
        (refine wpSeq_mov rfl rfl ?_; intro o ho; simp only [List.getElem?_toArray, List.getElem?_cons_zero, List.getElem?_cons_succ, Option.some.injEq] at ho; subst ho; refine ⟨?_, Or.inl ⟨by rfl, fun W hSW => ?_⟩, ?_⟩; rotate_left; (focus (go_simp; first | done | with_reducible rfl)); try simp only [Act.put, List.setIfInBounds_toArray, List.set_cons_zero, List.set_cons_succ])
        refine wpSeq_done ?_
        obtain ⟨b3, o3, e3, _, q1⟩ := (HP.out.after (step2 HL1.out.b HS2.out.low.b)) k _ (u8k_at HXK.out)
        cases e3
        have c0 := HS2.out.box.cell 0
        have c1 := HS2.out.box.cell 1
        have f1 := HS2.out.box.p.frozen 1
        obtain ⟨q0, hq0, hy0, hy1, hy2⟩ := info_parts rowInfoK
        by_cases h128 : 128 ≤ x
        · have HXC : Hid (xorC V x = [[1 + x % V, -(1 + x / 8 % V)], [-(1 + x % V), 1 + x / 8 % V]]) := if_pos h128
          have HX2 := Lib.hid (((HS2.out.step (stepA w3 (.cells #[.int .i64 (1 + x % V), .int .i64 (-(1 + x / 8 % V))] 3))).step (stepA _ (.cells #[.int .i64 (-(1 + x % V)), .int .i64 (1 + x / 8 % V)] 3))).step (stepA _ (.cells #[slotK (w3.heap.size, 2, [1 + x % V, -(1 + x / 8 % V)]), slotK (w3.heap.size + 1, 2, [-(1 + x % V), 1 + x / 8 % V])] 25)))
          have hB1 := ((Blk.new w3 3 #[.int .i64 (1 + x % V), .int .i64 (-(1 + x / 8 % V))]).alloc (.cells #[.int .i64 (-(1 + x % V)), .int .i64 (1 + x / 8 % V)] 3)).alloc (.cells #[slotK (w3.heap.size, 2, [1 + x % V, -(1 + x / 8 % V)]), slotK (w3.heap.size + 1, 2, [-(1 + x % V), 1 + x / 8 % V])] 25)
          have hB2 := (Blk.new (w3.alloc (.cells #[.int .i64 (1 + x % V), .int .i64 (-(1 + x / 8 % V))] 3)) 3 #[.int .i64 (-(1 + x % V)), .int .i64 (1 + x / 8 % V)]).alloc (.cells #[slotK (w3.heap.size, 2, [1 + x % V, -(1 + x / 8 % V)]), slotK (w3.heap.size + 1, 2, [-(1 + x % V), 1 + x / 8 % V])] 25)
          have hvn := vals_new ((w3.alloc (.cells #[.int .i64 (1 + x % V), .int .i64 (-(1 + x / 8 % V))] 3)).alloc (.cells #[.int .i64 (-(1 + x % V)), .int .i64 (1 + x / 8 % V)] 3)) [slotK (w3.heap.size, 2, [1 + x % V, -(1 + x / 8 % V)]), slotK (w3.heap.size + 1, 2, [-(1 + x % V), 1 + x / 8 % V])] 25
          simp only [World.size_alloc] at hB2 hvn
          have HB1 := Lib.hid hB1
          have HB2 := Lib.hid hB2
          have HVN : Hid (Vals _ _ (some ⟨w3.heap.size + 1 + 1, 0, none⟩) [slotK (w3.heap.size, 2, [1 + x % V, -(1 + x / 8 % V)]), slotK (w3.heap.size + 1, 2, [-(1 + x % V), 1 + x / 8 % V])]) := Lib.hid hvn
          clear hB1 hB2 hvn
          go_wp2_with (first | (at_builtin; refine wpList_append_vals _ rfl (.tmp 57) (.tmp 70) _ rfl w1.heap.size 25 q0 _ 1 24 Try.underlying22 hq0 hy0 hy1 hy2 rfl (by omega) (.slice B zs.length d) zs.length (zs.map slotK) rfl HX2.out.kb.own _ _ 2 2 [slotK (w3.heap.size, 2, [1 + x % V, -(1 + x / 8 % V)]), slotK (w3.heap.size + 1, 2, [-(1 + x % V), 1 + x / 8 % V])] rfl rfl HVN.out (slotK_one [(w3.heap.size, 2, [1 + x % V, -(1 + x / 8 % V)]), (w3.heap.size + 1, 2, [-(1 + x % V), 1 + x / 8 % V])]) (by unfold maxLen; omega) (by omega) (by simp; omega) ?_; intro v5 w5 hown5 hg5; obtain ⟨A6, c6, rfl, hcap6⟩ := own_form hown5; have HG5 := Lib.hid hg5; have HO5 := Lib.hid hown5; have HB5 := Lib.hid (HX2.out.box.p.by_ hg5 (own_ne HX2.out.kb.own HX2.out.box.p (by decide))); clear hown5 hg5 c0 c1 f1; have c1 := HB5.out.cell 1; have f1 := HB5.out.frozen 1))
          go_roundw
          case rel =>
            refine ⟨k + 1, A6, c6, zs ++ [(w3.heap.size, 2, [1 + x % V, -(1 + x / 8 % V)]), (w3.heap.size + 1, 2, [-(1 + x % V), 1 + x / 8 % V])], by omega, by omega, by go_num, ?_⟩
            have hput := HX2.out.put (c' := c6) (A' := A6) (ys := [(w3.heap.size, 2, [1 + x % V, -(1 + x / 8 % V)]), (w3.heap.size + 1, 2, [-(1 + x % V), 1 + x / 8 % V])]) HG5.out (by simpa using HO5.out) (fun y hy => by
              simp only [List.mem_cons, List.not_mem_nil, or_false] at hy
              rcases hy with rfl | rfl
              · exact ⟨Nat.le_refl _, HasI.of_blk HB1.out⟩
              · exact ⟨Nat.le_refl _, HasI.of_blk HB2.out⟩)
            rw [HSU.out, HXC.out]
            simpa using hput
          case measure => simp [intOf]; omega
        · have HXC : Hid (xorC V x = [[1 + x % V, 1 + x / 8 % V], [-(1 + x % V), -(1 + x / 8 % V)]]) := if_neg h128
          have HX2 := Lib.hid (((HS2.out.step (stepA w3 (.cells #[.int .i64 (1 + x % V), .int .i64 (1 + x / 8 % V)] 3))).step (stepA _ (.cells #[.int .i64 (-(1 + x % V)), .int .i64 (-(1 + x / 8 % V))] 3))).step (stepA _ (.cells #[slotK (w3.heap.size, 2, [1 + x % V, 1 + x / 8 % V]), slotK (w3.heap.size + 1, 2, [-(1 + x % V), -(1 + x / 8 % V)])] 25)))
          have hB1 := ((Blk.new w3 3 #[.int .i64 (1 + x % V), .int .i64 (1 + x / 8 % V)]).alloc (.cells #[.int .i64 (-(1 + x % V)), .int .i64 (-(1 + x / 8 % V))] 3)).alloc (.cells #[slotK (w3.heap.size, 2, [1 + x % V, 1 + x / 8 % V]), slotK (w3.heap.size + 1, 2, [-(1 + x % V), -(1 + x / 8 % V)])] 25)
          have hB2 := (Blk.new (w3.alloc (.cells #[.int .i64 (1 + x % V), .int .i64 (1 + x / 8 % V)] 3)) 3 #[.int .i64 (-(1 + x % V)), .int .i64 (-(1 + x / 8 % V))]).alloc (.cells #[slotK (w3.heap.size, 2, [1 + x % V, 1 + x / 8 % V]), slotK (w3.heap.size + 1, 2, [-(1 + x % V), -(1 + x / 8 % V)])] 25)
          have hvn := vals_new ((w3.alloc (.cells #[.int .i64 (1 + x % V), .int .i64 (1 + x / 8 % V)] 3)).alloc (.cells #[.int .i64 (-(1 + x % V)), .int .i64 (-(1 + x / 8 % V))] 3)) [slotK (w3.heap.size, 2, [1 + x % V, 1 + x / 8 % V]), slotK (w3.heap.size + 1, 2, [-(1 + x % V), -(1 + x / 8 % V)])] 25
          simp only [World.size_alloc] at hB2 hvn
          have HB1 := Lib.hid hB1
          have HB2 := Lib.hid hB2
          have HVN : Hid (Vals _ _ (some ⟨w3.heap.size + 1 + 1, 0, none⟩) [slotK (w3.heap.size, 2, [1 + x % V, 1 + x / 8 % V]), slotK (w3.heap.size + 1, 2, [-(1 + x % V), -(1 + x / 8 % V)])]) := Lib.hid hvn
          clear hB1 hB2 hvn
          go_wp2_with (first | (at_builtin; refine wpList_append_vals _ rfl (.tmp 57) (.tmp 70) _ rfl w1.heap.size 25 q0 _ 1 24 Try.underlying22 hq0 hy0 hy1 hy2 rfl (by omega) (.slice B zs.length d) zs.length (zs.map slotK) rfl HX2.out.kb.own _ _ 2 2 [slotK (w3.heap.size, 2, [1 + x % V, 1 + x / 8 % V]), slotK (w3.heap.size + 1, 2, [-(1 + x % V), -(1 + x / 8 % V)])] rfl rfl HVN.out (slotK_one [(w3.heap.size, 2, [1 + x % V, 1 + x / 8 % V]), (w3.heap.size + 1, 2, [-(1 + x % V), -(1 + x / 8 % V)])]) (by unfold maxLen; omega) (by omega) (by simp; omega) ?_; intro v5 w5 hown5 hg5; obtain ⟨A6, c6, rfl, hcap6⟩ := own_form hown5; have HG5 := Lib.hid hg5; have HO5 := Lib.hid hown5; have HB5 := Lib.hid (HX2.out.box.p.by_ hg5 (own_ne HX2.out.kb.own HX2.out.box.p (by decide))); clear hown5 hg5 c0 c1 f1; have c1 := HB5.out.cell 1; have f1 := HB5.out.frozen 1))
          go_roundw
          case rel =>
            refine ⟨k + 1, A6, c6, zs ++ [(w3.heap.size, 2, [1 + x % V, 1 + x / 8 % V]), (w3.heap.size + 1, 2, [-(1 + x % V), -(1 + x / 8 % V)])], by omega, by omega, by go_num, ?_⟩
            have hput := HX2.out.put (c' := c6) (A' := A6) (ys := [(w3.heap.size, 2, [1 + x % V, 1 + x / 8 % V]), (w3.heap.size + 1, 2, [-(1 + x % V), -(1 + x / 8 % V)])]) HG5.out (by simpa using HO5.out) (fun y hy => by
              simp only [List.mem_cons, List.not_mem_nil, or_false] at hy
              rcases hy with rfl | rfl
              · exact ⟨Nat.le_refl _, HasI.of_blk HB1.out⟩
              · exact ⟨Nat.le_refl _, HasI.of_blk HB2.out⟩)
            rw [HSU.out, HXC.out]
            simpa using hput
          case measure => simp [intOf]; omega
      · have h8' : ¬ (k : Int) < 8 := by omega
        have HCL := Lib.hid HS.out.cls
        have HCC := Lib.hid (⟨HS.out.kb.cap, HS.out.len⟩ : zs.length ≤ d ∧ zs.length = (xorK V (xs.take k)).length)
        have HSM := Lib.hid (xorK_small V (xs.take k))
        have HK := Lib.hid HS.out.box
        have HL2 := Lib.hid (HL1.out.step HS.out.low.b)
        have c0 := HK.out.cell 0
        have c1 := HK.out.cell 1
        clear HS
        generalize xorK V (xs.take k) = cs at HCL HCC HSM
        obtain ⟨hcc, hce⟩ := HCC.out
        have HST := Lib.hid (solve_told V cs B d [] none 0 wr (.inl hV9) (by omega) (fun x hx => by have := HSM.out x hx; omega) (by simp) (by omega) (Nat.le_refl _) HCL.out Vals.nil)
        rw [← hce] at HST
        clear hce hcc
        go_wp2_with fail
        refine HST.out.mono ?_
        rintro e w3 ⟨m, is, er, rfl, hb, ht⟩
        have HT := Lib.hid (ht _ (Below.refl _ _))
        replace HL2 := Lib.hid (HL2.out.step hb); replace HK := Lib.hid (HK.out.step hb)
        replace c0 := HK.out.cell 0
        replace c1 := HK.out.cell 1
        clear hb ht HST
        rw [← HCC.out.2] at HT
        go_wp2_with fail
        refine HT.out.mono ?_
        rintro e w5 ⟨rfl, hb⟩
        replace HL2 := Lib.hid (HL2.out.step hb)
        clear hb HT c0 c1
        go_wp2_with fail
        go_ret
        exact ⟨rfl, HL2.out.b⟩
    · have hlt' : ¬ (k : Int) < (xs.length : Int) := by omega
      have HCL := Lib.hid HS.out.cls
      have HCC := Lib.hid (⟨HS.out.kb.cap, HS.out.len⟩ : zs.length ≤ d ∧ zs.length = (xorK V (xs.take k)).length)
      have HSM := Lib.hid (xorK_small V (xs.take k))
      have HK := Lib.hid HS.out.box
      have HL2 := Lib.hid (HL1.out.step HS.out.low.b)
      have c0 := HK.out.cell 0
      have c1 := HK.out.cell 1
      clear HS
      generalize xorK V (xs.take k) = cs at HCL HCC HSM
      obtain ⟨hcc, hce⟩ := HCC.out
      have HST := Lib.hid (solve_told V cs B d [] none 0 wr (.inl hV9) (by omega) (fun x hx => by have := HSM.out x hx; omega) (by simp) (by omega) (Nat.le_refl _) HCL.out Vals.nil)
      rw [← hce] at HST
      clear hce hcc
      go_wp2_with fail
      refine HST.out.mono ?_
      rintro e w3 ⟨m, is, er, rfl, hb, ht⟩
      have HT := Lib.hid (ht _ (Below.refl _ _))
      replace HL2 := Lib.hid (HL2.out.step hb); replace HK := Lib.hid (HK.out.step hb)
      replace c0 := HK.out.cell 0
      replace c1 := HK.out.cell 1
      clear hb ht HST
      rw [← HCC.out.2] at HT
      go_wp2_with fail
      refine HT.out.mono ?_
      rintro e w5 ⟨rfl, hb⟩
      replace HL2 := Lib.hid (HL2.out.step hb)
      clear hb HT c0 c1
      go_wp2_with fail
      go_ret
      exact ⟨rfl, HL2.out.b⟩
end Go.Proofs.Ytbkmgblijncjhaa
