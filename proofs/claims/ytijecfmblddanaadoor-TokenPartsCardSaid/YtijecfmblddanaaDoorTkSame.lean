/- Tokens: the document's Same of the same list; same, TokenAny's body. -/
import Derived.Test.YtijecfmblddanaaDoorSeq
import Derived.Test.YtijecfmblddanaaDoorTkRlex
set_option linter.unusedVariables false
set_option linter.unusedSimpArgs false
namespace Go.Proofs.YtijecfmblddanaaDoor
open Go.RowKit Go.Maps

theorem flatTk_at : ∀ (l : List Tk) (i : Nat) (t : Tk), l[i]? = some t → (flatTk l)[i * 3]? = some (.int .i64 t.kind) ∧ (flatTk l)[i * 3 + 1]? = some (.string ⟨t.text.toArray⟩) ∧ (flatTk l)[i * 3 + 2]? = some (.int .i64 (t.place : Int))
  | [], i, t, h => by simp at h
  | q :: l, 0, t, h => by
    simp at h
    subst h
    exact ⟨rfl, rfl, rfl⟩
  | q :: l, i + 1, t, h => by
    have := flatTk_at l i t (by simpa using h)
    have e : (i + 1) * 3 = i * 3 + 1 + 1 + 1 := by omega
    have e2 : flatTk (q :: l) = .int .i64 q.kind :: .string ⟨q.text.toArray⟩ :: .int .i64 (q.place : Int) :: flatTk l := rfl
    rw [e, e2]
    simpa using this

/-- The cells of one token. -/
theorem tk_cells {w : World} {B : Nat} {A : Option Addr} {l : List Tk} (h : Vals w B A (flatTk l)) {i : Nat} {t : Tk} (hi : l[i]? = some t) : ∃ b o, A = some ⟨b, o, none⟩ ∧ b < B ∧
    w.cell? ⟨b, o + i * 3, none⟩ = some (.int .i64 t.kind) ∧ w.cell? ⟨b, o + i * 3 + 1, none⟩ = some (.string ⟨t.text.toArray⟩) ∧ w.cell? ⟨b, o + i * 3 + 2, none⟩ = some (.int .i64 (t.place : Int)) := by
  obtain ⟨h1, h2, h3⟩ := flatTk_at l i t hi
  obtain ⟨b, o, e, hb, c1⟩ := h _ _ h1
  obtain ⟨b', o', e', _, c2⟩ := h _ _ h2
  obtain ⟨b'', o'', e'', _, c3⟩ := h _ _ h3
  subst e
  cases e'
  cases e''
  exact ⟨b, o, rfl, hb, c1, by rw [Nat.add_assoc]; exact c2, by rw [Nat.add_assoc]; exact c3⟩

theorem equalIn_tok (n : Nat) (a c : Int) (b : ByteArray) (w : World) : (Op.equalIn (n + 1 + 1) 32 (.agg #[.int .i64 a, .string b, .int .i64 c]) (.agg #[.int .i64 a, .string b, .int .i64 c])).run Tryd.prog w = .ok true w := by
  have e1 : ∀ x : Int, (Op.equalIn (n + 1) 3 (.int .i64 x) (.int .i64 x)).run Tryd.prog w = .ok true w := fun x => by
    rw [run_equalIn_int w n 3 .i64 .i64 x x Tryd.underlying3]
    simp
  have e2 : ∀ x : ByteArray, (Op.equalIn (n + 1) 9 (.string x) (.string x)).run Tryd.prog w = .ok true w := fun x => by
    rw [run_equalIn_string w n 9 x x Tryd.underlying9]
    simp
  have p0 : (part 3 #[.int .i64 a, .string b, .int .i64 c] 0).run Tryd.prog w = .ok (.int .i64 a) w := by kernel_rfl
  have p1 : (part 9 #[.int .i64 a, .string b, .int .i64 c] 1).run Tryd.prog w = .ok (.string b) w := by kernel_rfl
  have p2 : (part 3 #[.int .i64 a, .string b, .int .i64 c] 2).run Tryd.prog w = .ok (.int .i64 c) w := by kernel_rfl
  rw [run_equalIn_agg w (n + 1) 32 _ _ (by kernel_rfl) (by kernel_rfl)]
  simp [Program.fieldsOf, Tryd.underlying32, Op.eqFields, e1, e2, p0, p1, p2]
theorem neq_tok (a c : Int) (b : ByteArray) (w : World) : (binOp .neq 32 (.agg #[.int .i64 a, .string b, .int .i64 c]) (.agg #[.int .i64 a, .string b, .int .i64 c])).run Tryd.prog w = .ok (.bool false) w := by
  rw [run_neq_struct, show (10000 : Nat) = 9998 + 1 + 1 from rfl, equalIn_tok]
  rfl

set_option maxHeartbeats 800000 in
theorem rsame_any (l : List Tk) (hl : l.length ≤ 9223372036854775806) (A B : Option Addr) (c d : Nat) (w : World) (hA : Vals w w.heap.size A (flatTk l)) (hB : Vals w w.heap.size B (flatTk l)) (hc : l.length ≤ c) (hd : l.length ≤ d) :
    Calls Tryd.prog 33 #[.slice A l.length c, .slice B l.length d] w (Ret w (.bool true)) := by
  have HNE := Lib.hid neq_tok
  have HAA := Lib.hid hA
  have HBB := Lib.hid hB
  clear hA hB
  go_enter Tryd.func33, Tryd.ntmps33
  go_wp2_with fail
  go_loopw [5] (fun i wr => ∃ k : Nat, k ≤ l.length ∧ i = .int .i64 k ∧ Below w.heap.size w wr) (fun i _ => l.length - (intOf i).toNat)
  case atStart => exact ⟨0, Nat.zero_le _, rfl, Below.refl _ _⟩
  case round =>
    obtain ⟨k, hk, rfl, hlow⟩ := hrel
    by_cases hlt : k < l.length
    · have hlt' : (k : Int) < (l.length : Int) := by omega
      obtain ⟨t, ht⟩ : ∃ t, l[k]? = some t := ⟨_, List.getElem?_eq_getElem hlt⟩
      obtain ⟨b, o, rfl, hb, c0, c1, c2⟩ := tk_cells (HAA.out.below hlow) ht
      obtain ⟨b', o', rfl, hb', d0, d1, d2⟩ := tk_cells (HBB.out.below hlow) ht
      have hN := HNE.out t.kind (t.place : Int) ⟨t.text.toArray⟩
      have HLOW := Lib.hid hlow
      clear ht hlow
      go_wp2_with fail
      refine wp_region_noPanic ?_
      refine wp_region_seq (fun W => ((W.cell? ⟨b, o + k * 3, none⟩ = some (.int .i64 t.kind) ∧ W.cell? ⟨b, o + k * 3 + 1, none⟩ = some (.string ⟨t.text.toArray⟩) ∧ W.cell? ⟨b, o + k * 3 + 2, none⟩ = some (.int .i64 (t.place : Int))) ∧ (W.cell? ⟨b', o' + k * 3, none⟩ = some (.int .i64 t.kind) ∧ W.cell? ⟨b', o' + k * 3 + 1, none⟩ = some (.string ⟨t.text.toArray⟩) ∧ W.cell? ⟨b', o' + k * 3 + 2, none⟩ = some (.int .i64 (t.place : Int))))) [0, 1, 2, 3, 4, 5, 6, 7, 8] [0, 1, 2, 3, 4, 5, 6, 7, 8] [] (by kernel_rfl) (by kernel_rfl) rfl (by kernel_rfl) (by kernel_rfl) (fun _ _ _ _ _ h => h) ?_ (fun hSS => ?_)
      · exact ⟨⟨c0, c1, c2⟩, ⟨d0, d1, d2⟩⟩
      (refine wpSeq_mov rfl rfl ?_; intro o ho; simp only [List.getElem?_toArray, List.getElem?_cons_zero, List.getElem?_cons_succ, Option.some.injEq] at ho; subst ho; refine ⟨?_, Or.inl ⟨by rfl, fun W hSW => ?_⟩, ?_⟩; rotate_left; (focus (go_simp; first | done | with_reducible rfl)); try simp only [Act.put, List.setIfInBounds_toArray, List.set_cons_zero, List.set_cons_succ])
      (refine wpSeq_mov rfl rfl ?_; intro o ho; simp only [List.getElem?_toArray, List.getElem?_cons_zero, List.getElem?_cons_succ, Option.some.injEq] at ho; subst ho; refine ⟨?_, Or.inl ⟨by rfl, fun W hSW => ?_⟩, ?_⟩; rotate_left; (focus (go_simp; first | done | with_reducible rfl)); try simp only [Act.put, List.setIfInBounds_toArray, List.set_cons_zero, List.set_cons_succ])
      (refine wpSeq_mov rfl rfl ?_; intro o ho; simp only [List.getElem?_toArray, List.getElem?_cons_zero, List.getElem?_cons_succ, Option.some.injEq] at ho; subst ho; refine ⟨?_, Or.inl ⟨by rfl, fun W hSW => ?_⟩, ?_⟩; rotate_left; (focus (go_simp; first | done | with_reducible rfl)); try simp only [Act.put, List.setIfInBounds_toArray, List.set_cons_zero, List.set_cons_succ])
      (refine wpSeq_mov rfl rfl ?_; intro o ho; simp only [List.getElem?_toArray, List.getElem?_cons_zero, List.getElem?_cons_succ, Option.some.injEq] at ho; subst ho; refine ⟨?_, Or.inl ⟨by rfl, fun W hSW => ?_⟩, ?_⟩; rotate_left; (focus (go_simp; first | done | with_reducible rfl)); try simp only [Act.put, List.setIfInBounds_toArray, List.set_cons_zero, List.set_cons_succ])
      (refine wpSeq_mov rfl rfl ?_; intro o ho; simp only [List.getElem?_toArray, List.getElem?_cons_zero, List.getElem?_cons_succ, Option.some.injEq] at ho; subst ho; refine ⟨?_, Or.inl ⟨by rfl, fun W hSW => ?_⟩, ?_⟩; rotate_left; (focus (go_simp; first | done | with_reducible rfl)); try simp only [Act.put, List.setIfInBounds_toArray, List.set_cons_zero, List.set_cons_succ])
      (refine wpSeq_mov rfl rfl ?_; intro o ho; simp only [List.getElem?_toArray, List.getElem?_cons_zero, List.getElem?_cons_succ, Option.some.injEq] at ho; subst ho; refine ⟨?_, Or.inl ⟨by rfl, fun W hSW => ?_⟩, ?_⟩; rotate_left; (focus (go_simp; first | done | with_reducible rfl)); try simp only [Act.put, List.setIfInBounds_toArray, List.set_cons_zero, List.set_cons_succ])
      (refine wpSeq_mov rfl rfl ?_; intro o ho; simp only [List.getElem?_toArray, List.getElem?_cons_zero, List.getElem?_cons_succ, Option.some.injEq] at ho; subst ho; refine ⟨?_, Or.inl ⟨by rfl, fun W hSW => ?_⟩, ?_⟩; rotate_left; (focus (go_simp; first | done | with_reducible rfl)); try simp only [Act.put, List.setIfInBounds_toArray, List.set_cons_zero, List.set_cons_succ])
      (refine wpSeq_mov rfl rfl ?_; intro o ho; simp only [List.getElem?_toArray, List.getElem?_cons_zero, List.getElem?_cons_succ, Option.some.injEq] at ho; subst ho; refine ⟨?_, Or.inl ⟨by rfl, fun W hSW => ?_⟩, ?_⟩; rotate_left; (focus (go_simp; first | done | with_reducible rfl)); try simp only [Act.put, List.setIfInBounds_toArray, List.set_cons_zero, List.set_cons_succ])
      (refine wpSeq_mov rfl rfl ?_; intro o ho; simp only [List.getElem?_toArray, List.getElem?_cons_zero, List.getElem?_cons_succ, Option.some.injEq] at ho; subst ho; refine ⟨?_, Or.inl ⟨by rfl, fun W hSW => ?_⟩, ?_⟩; rotate_left; (focus (go_simp; first | done | with_reducible rfl)); try simp only [Act.put, List.setIfInBounds_toArray, List.set_cons_zero, List.set_cons_succ])
      refine wpSeq_done ?_
      go_wp2_with fail
      go_roundw
      case rel => exact ⟨k + 1, by omega, by go_num, HLOW.out.drew⟩
      case measure => simp [intOf]; omega
    · obtain rfl : k = l.length := by omega
      go_wp2_with fail
      go_ret
      exact ⟨rfl, hlow⟩

set_option maxHeartbeats 800000 in
theorem same_any (s : ByteArray) (hs : s.size ≤ 140737488355328) (w : World) : Calls Tryd.prog 17 #[.string s] w (Ret w (.bool true)) := by
  have hll : (lexOf s.data.toList).1.length ≤ 20001 := by
    unfold lexOf
    split
    · simp
    · split
      · simp
      · rename_i h _
        have := items_len _ s.data.toList 0 (Nat.lt_succ_self _)
        simp only [lexToks, List.length_map]
        omega
  have HL := Lib.hid (fun w => lex_any s hs w)
  have HR := Lib.hid (fun w => rlex_any s hs w)
  have HS := Lib.hid (rsame_any (lexOf s.data.toList).1 (by omega))
  generalize lexOf s.data.toList = r at HL HR HS hll
  obtain ⟨l, e0, p0⟩ := r
  simp only [] at hll
  go_enter Tryd.func17, Tryd.ntmps17
  go_wp2_with fail
  refine (HL.out _).mono ?_
  rintro e w1 ⟨A, c, rfl, hc, hv, hb1⟩
  have HV := Lib.hid hv
  have HB1 := Lib.hid hb1
  have hc' := hc
  simp only [] at hc'
  clear hv hb1 hc
  go_wp2_with fail
  refine (HR.out _).mono ?_
  rintro e w2 ⟨B, d, rfl, hd, hv2, hb2⟩
  have HV2 := Lib.hid hv2
  have HB2 := Lib.hid hb2
  have hd' := hd
  simp only [] at hd'
  clear hv2 hb2 hd
  go_wp2_with fail
  refine (HS.out A B c d w2 (HV.out.after HB2.out) HV2.out hc' hd').mono ?_
  rintro e w3 ⟨rfl, hb3⟩
  have HB3 := Lib.hid hb3
  clear hb3
  go_wp2_with fail
  go_ret
  exact ⟨rfl, step2 (step2 HB1.out HB2.out) HB3.out⟩
end Go.Proofs.YtijecfmblddanaaDoor
