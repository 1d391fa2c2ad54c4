/- A solver: add. A solver: what lies in memory while it learns. A solver: learn. atomic.Int64's Add, where one goroutine runs. A solver: run. -/
import Derived.Test.YtbkmgblijncjhaaKM
import Derived.Laws.LoneSync
set_option linter.unusedVariables false
set_option linter.unusedSimpArgs false
namespace Go.Proofs.Ytbkmgblijncjhaa
open Go.RowKit Go.Maps

theorem intsInfo : (Try.prog.info? 25).map (fun i => (i.zero, i.size, i.bytes)) = some (some (.slice none 0 0), 1, 24) := by kernel_rfl
/-- Under a literal of the clause there is one clause more. -/
def undAdd (u : Int → List Nat) (k : Nat) (l : List Int) : Int → List Nat := fun y => u y ++ if y ∈ l then [k] else []
theorem undAdd_nil (u : Int → List Nat) (k : Nat) : undAdd u k [] = u := by
  funext y
  simp [undAdd]
theorem undAdd_step {u : Int → List Nat} {k j : Nat} {c : List Int} {x : Int} (hx : c[j]? = some x) (hn : c.Nodup) : undAdd u k (c.take (j + 1)) = fun y => if y = x then undAdd u k (c.take j) x ++ [k] else undAdd u k (c.take j) y := by
  have hnx : x ∉ c.take j := fun h => by
    obtain ⟨i, h1, h2⟩ := mem_take_iff.1 h
    have := (List.getElem?_inj (List.getElem?_eq_some_iff.1 h2).1 hn).1 (h2.trans hx.symm)
    omega
  funext y
  unfold undAdd
  rw [List.take_add_one, hx]
  by_cases e : y = x
  · subst e
    simp [hnx]
  · simp [e]
/-- What add leaves. -/
structure Added (w w' : World) (base b n : Nat) (s : SS) (G : SG) (o : Owns) (c : List Int) (j : Nat) (G' : SG) (o' : Owns) : Prop where
  m : SMem w' base b n (s.add c) G' o'
  V : G'.V = G.V
  LV : G'.LV = G.LV
  RV : G'.RV = G.RV
  und : G'.und = undAdd G.und s.cls.length (c.take j)
  un : G'.un ≤ G.un + j
  dead : G'.dead = G.dead
  olds : Olds w o o'
  fr : SFr o w w'
def AddPost (w : World) (base b n : Nat) (s : SS) (G : SG) (o : Owns) (c : List Int) (A : Option Addr) (e : Ending) (w' : World) : Prop :=
  e = .returned (.int .i64 (s.cls.length : Int)) ∧ ∃ G' o', Added w w' base b n s G o c c.length G' o' ∧ Vals w' w'.heap.size A (i64s c)
theorem UInv.add {s : SS} {u : Int → List Nat} (h : UInv s u) (c : List Int) : UInv (s.add c) (undAdd u s.cls.length c) := by
  refine ⟨fun x k => ?_, fun x => ?_⟩
  · unfold undAdd
    rw [List.mem_append, h.mem]
    constructor
    · rintro (⟨d, h1, h2⟩ | h1)
      · exact ⟨d, by show (s.cls ++ [c])[k]? = _; rw [List.getElem?_append_left (List.getElem?_eq_some_iff.1 h1).1]; exact h1, h2⟩
      · split at h1
        · next hx =>
          have : k = s.cls.length := by simpa using h1
          subst this
          exact ⟨c, by show (s.cls ++ [c])[_]? = _; simp, hx⟩
        · cases h1
    · rintro ⟨d, h1, h2⟩
      rcases get_snoc h1 with ⟨h3, h4⟩ | ⟨h3, h4⟩
      · exact .inl ⟨d, h4, h2⟩
      · subst h4
        rw [if_pos h2, h3]
        exact .inr (by simp)
  · unfold undAdd
    have := h.len x
    rw [List.length_append]
    show _ ≤ (s.cls ++ [c]).length
    rw [List.length_append]
    split <;> simp <;> omega

section
variable {w : World} {base b n : Nat} {s : SS} {G : SG} {o : Owns}
set_option maxRecDepth 100000 in
set_option maxHeartbeats 4000000 in
theorem add_any (h : SMem w base b n s G o) (hui : UInv s G.und) (hn : n ≤ 1000000) {c : List Int} {A : Option Addr} {cp : Nat} (hA : Vals w w.heap.size A (i64s c)) (hcp : c.length ≤ cp) (hlab : ∀ k p, A = some ⟨k, p, none⟩ → o k = some .cl) (hcl : c.length ≤ 1000000) (hnd : c.Nodup) (hrng : ∀ x ∈ c, x ≠ 0 ∧ x.natAbs ≤ n)
    (hC : s.cls.length ≤ 4000000000000) (hun : G.un ≤ 8000000000000000000) :
    Calls Try.prog 50 #[.pointer (some ⟨b, 0, none⟩), .slice A c.length cp] w (AddPost w base b n s G o c A) := by
  have HS := Lib.hid h
  have HD : Hid (Vals w w.heap.size A (i64s c) ∧ c.length ≤ cp ∧ ∀ k p, A = some ⟨k, p, none⟩ → o k = some .cl) := Lib.hid ⟨hA, hcp, hlab⟩
  have HU := Lib.hid hui
  have HND := Lib.hid hnd
  have HRN := Lib.hid hrng
  have c1 : w.cell? ⟨b, 1, none⟩ = some (.slice G.C s.cls.length G.cc) := h.sb.cell 1
  have z1 := h.sb.frozen 1
  clear h hA hcp hlab hui hnd hrng
  have HS2 := Lib.hid (HS.out.after (stepA w (.cells #[.slice A c.length cp] 25)))
  have HF2 := Lib.hid (SFr.of_below (stepA w (.cells #[.slice A c.length cp] 25)) o)
  have HD2 : Hid (Vals (w.alloc (.cells #[.slice A c.length cp] 25)) (w.alloc (.cells #[.slice A c.length cp] 25)).heap.size A (i64s c) ∧ c.length ≤ cp ∧ ∀ k p, A = some ⟨k, p, none⟩ → o k = some .cl) := Lib.hid ⟨HD.out.1.after (stepA w _), HD.out.2⟩
  obtain ⟨i0, hi0, hz0, hz1, hz2⟩ := info_parts intsInfo
  have hone : ∀ u ∈ [Value.slice A c.length cp], u.oneCell' = true := fun u hu => by
    simp at hu
    rw [hu]
    rfl
  go_enter Try.func50, Try.ntmps50
  go_wp2_with ((at_builtin; go_loud (refine wpList_append_own_at (o := ⟨some 20, _, _, _, _, _⟩) _ rfl (.tmp 17) (.tmp 19) _ rfl base 25 i0 _ 1 24 Try.underlying22 hi0 hz0 hz1 hz2 rfl (by omega) (.slice G.C s.cls.length G.cc) s.cls.length ((s.cls.zip G.CS).map clV) rfl HS2.out.cs _ 1 1 [.slice A c.length cp] rfl rfl (cells_new w [.slice A c.length cp] 25) hone (by unfold maxLen; omega) (by omega) HS2.out.base_le ?_); intro v9 w9 ho9 hg9 _ hat9; go_loud (obtain ⟨T', ct', rfl, hct⟩ := own_form ho9); go_loud (have HP := Lib.hid (HS2.out.push_cs (Ad := (A, cp)) HD2.out ho9 hg9 hat9)); go_loud (have hcb := HS2.out.grown_s hg9 (l := .cls) (by simp) HS2.out.cso); go_loud (have e9 := (hcb.1 1).trans (HS2.out.sb.cell 1)); go_loud (have z9 := (hcb.2 1).trans (HS2.out.sb.frozen 1)); clear c1 z1 ho9 hg9 hat9 hcb))
  clear e9 z9
  have HF4 := Lib.hid (HF2.out.trans HP.out.2.2 (Olds.refl _ _))
  have HA0 : Hid (Added w _ base b n s G o c 0 { G with C := T', cc := ct', CS := G.CS ++ [(A, cp)] } _) := Lib.hid ⟨HP.out.1, rfl, rfl, rfl, by rw [List.take_zero, undAdd_nil], Nat.le_refl _, rfl, fun k hk => HP.out.2.1 k (Nat.lt_of_lt_of_le hk HF2.out.size), HF4.out⟩
  clear HP HF4 HF2 HS2 HD2 HD hone
  generalize w9.setCell ⟨b, 1, none⟩ (.slice T' (s.cls.length + 1) ct') = w1 at HA0 ⊢
  go_loopw [25] (fun iv wr => ∃ (j : Nat) (G1 : SG) (o1 : Owns), j ≤ c.length ∧ iv = .int .i64 (j : Int) ∧ Added w wr base b n s G o c j G1 o1 ∧ G1.CS = G.CS ++ [(A, cp)]) (fun iv _ => c.length - (intOf iv).toNat)
  case atStart => exact ⟨0, _, _, Nat.zero_le _, rfl, HA0.out, rfl⟩
  case round =>
    obtain ⟨j, G1, o1, hj, rfl, hA1, hCS⟩ := hrel
    have H1 := Lib.hid hA1
    have HCS := Lib.hid hCS
    clear hA1 hCS HA0
    by_cases hlt : j < c.length
    · have hlt' : (j : Int) < (c.length : Int) := by omega
      obtain ⟨x, hx⟩ : ∃ x, c[j]? = some x := ⟨_, List.getElem?_eq_getElem hlt⟩
      have hxr := HRN.out x (List.mem_of_getElem? hx)
      have hvc := (H1.out.m.cl s.cls.length c (A, cp) (by show (s.cls ++ [c])[_]? = _; simp) (by rw [HCS.out, ← HS.out.csl]; simp)).1
      obtain ⟨q, p, rfl, _, hcx⟩ := hvc j (.int .i64 x) (i64s_at hx)
      have HX := Lib.hid hx
      have hux : (G1.und x).length ≤ 4000000000001 := by
        rw [H1.out.und]
        unfold undAdd
        rw [List.length_append]
        have := HU.out.len x
        split <;> simp <;> omega
      clear hvc hx
      go_wp2_with fail
      have HLK := Lib.hid (H1.out.m.under (x := x) (by omega))
      refine wp_region_noPanic ?_
      refine wp_region_seq (fun W => W.cell? ⟨b, 2, none⟩ = some (.map (some G1.um)) ∧ (Instr.lookup 60 (.map (some G1.um)) (.int .i64 x) false).run Try.prog W = .ok (.slice (G1.U x).1 (G1.und x).length (G1.U x).2) W) [0, 4, 5, 9, 11, 1, 2, 3, 6, 7, 8, 10, 12, 13, 14] [0, 1, 2, 3, 4, 5, 6, 7, 8, 9, 10, 11] [14] (by kernel_rfl) (by kernel_rfl) rfl (by kernel_rfl) (by kernel_rfl) (fun _ _ _ _ _ h => h) ?_ (fun hSS => ?_)
      · exact ⟨H1.out.m.sb.cell 2, (H1.out.m.after (stepD1 wr)).under (x := x) (by omega)⟩
      clear hSS HLK hcx
      have HM2 := Lib.hid (H1.out.m.after (stepD1 wr))
      have HF2 := Lib.hid (H1.out.fr.trans (SFr.of_below (stepD1 wr) o1) H1.out.olds)
      generalize wr.drew = w2 at HM2 HF2 ⊢
      have HM3 := Lib.hid (HM2.out.after (stepA w2 (.cells #[.int .i64 (s.cls.length : Int)] 3)))
      have HF3 := Lib.hid (HF2.out.trans (SFr.of_below (stepA w2 (.cells #[.int .i64 (s.cls.length : Int)] 3)) o1) H1.out.olds)
      (refine wpSeq_mov rfl rfl ?_; intro o ho; simp only [List.getElem?_toArray, List.getElem?_cons_zero, List.getElem?_cons_succ, Option.some.injEq] at ho; subst ho; refine ⟨?_, Or.inl ⟨by rfl, fun W hSW => ?_⟩, ?_⟩; rotate_left; (focus (go_simp; first | done | with_reducible rfl)); try simp only [Act.put, List.setIfInBounds_toArray, List.set_cons_zero, List.set_cons_succ])
      (refine wpSeq_mov rfl rfl ?_; intro o ho; simp only [List.getElem?_toArray, List.getElem?_cons_zero, List.getElem?_cons_succ, Option.some.injEq] at ho; subst ho; refine ⟨?_, Or.inl ⟨by rfl, fun W hSW => ?_⟩, ?_⟩; rotate_left; (focus (go_simp; first | done | with_reducible rfl)); try simp only [Act.put, List.setIfInBounds_toArray, List.set_cons_zero, List.set_cons_succ])
      (refine wpSeq_mov rfl rfl ?_; intro o ho; simp only [List.getElem?_toArray, List.getElem?_cons_zero, List.getElem?_cons_succ, Option.some.injEq] at ho; subst ho; refine ⟨?_, Or.inl ⟨by rfl, fun W hSW => ?_⟩, ?_⟩; rotate_left; (focus (go_simp; first | done | with_reducible rfl)); try simp only [Act.put, List.setIfInBounds_toArray, List.set_cons_zero, List.set_cons_succ])
      (refine wpSeq_mov rfl rfl ?_; intro o ho; simp only [List.getElem?_toArray, List.getElem?_cons_zero, List.getElem?_cons_succ, Option.some.injEq] at ho; subst ho; refine ⟨?_, Or.inl ⟨by rfl, fun W hSW => ?_⟩, ?_⟩; rotate_left; (focus (go_simp; first | done | with_reducible rfl)); try simp only [Act.put, List.setIfInBounds_toArray, List.set_cons_zero, List.set_cons_succ])
      (refine wpSeq_mov rfl rfl ?_; intro o ho; simp only [List.getElem?_toArray, List.getElem?_cons_zero, List.getElem?_cons_succ, Option.some.injEq] at ho; subst ho; refine ⟨?_, Or.inl ⟨by rfl, fun W hSW => ?_⟩, ?_⟩; rotate_left; (focus (go_simp; first | done | with_reducible rfl)); try simp only [Act.put, List.setIfInBounds_toArray, List.set_cons_zero, List.set_cons_succ])
      (refine wpSeq_mov rfl rfl ?_; intro o ho; simp only [List.getElem?_toArray, List.getElem?_cons_zero, List.getElem?_cons_succ, Option.some.injEq] at ho; subst ho; refine ⟨?_, Or.inl ⟨by rfl, fun W hSW => ?_⟩, ?_⟩; rotate_left; (focus (go_simp; first | done | with_reducible rfl)); try simp only [Act.put, List.setIfInBounds_toArray, List.set_cons_zero, List.set_cons_succ])
      (refine wpSeq_mov rfl rfl ?_; intro o ho; simp only [List.getElem?_toArray, List.getElem?_cons_zero, List.getElem?_cons_succ, Option.some.injEq] at ho; subst ho; refine ⟨?_, Or.inl ⟨by rfl, fun W hSW => ?_⟩, ?_⟩; rotate_left; (focus (go_simp; first | done | with_reducible rfl)); try simp only [Act.put, List.setIfInBounds_toArray, List.set_cons_zero, List.set_cons_succ])
      (refine wpSeq_mov rfl rfl ?_; intro o ho; simp only [List.getElem?_toArray, List.getElem?_cons_zero, List.getElem?_cons_succ, Option.some.injEq] at ho; subst ho; refine ⟨?_, Or.inl ⟨by rfl, fun W hSW => ?_⟩, ?_⟩; rotate_left; (focus (go_simp; first | done | with_reducible rfl)); try simp only [Act.put, List.setIfInBounds_toArray, List.set_cons_zero, List.set_cons_succ])
      (refine wpSeq_mov rfl rfl ?_; intro o ho; simp only [List.getElem?_toArray, List.getElem?_cons_zero, List.getElem?_cons_succ, Option.some.injEq] at ho; subst ho; refine ⟨?_, Or.inl ⟨by rfl, fun W hSW => ?_⟩, ?_⟩; rotate_left; (focus (go_simp; first | done | with_reducible rfl)); try simp only [Act.put, List.setIfInBounds_toArray, List.set_cons_zero, List.set_cons_succ])
      (refine wpSeq_mov rfl rfl ?_; intro o ho; simp only [List.getElem?_toArray, List.getElem?_cons_zero, List.getElem?_cons_succ, Option.some.injEq] at ho; subst ho; refine ⟨?_, Or.inl ⟨by rfl, fun W hSW => ?_⟩, ?_⟩; rotate_left; (focus (go_simp; first | done | with_reducible rfl)); try simp only [Act.put, List.setIfInBounds_toArray, List.set_cons_zero, List.set_cons_succ])
      (refine wpSeq_mov rfl rfl ?_; intro o ho; simp only [List.getElem?_toArray, List.getElem?_cons_zero, List.getElem?_cons_succ, Option.some.injEq] at ho; subst ho; refine ⟨?_, Or.inl ⟨by rfl, fun W hSW => ?_⟩, ?_⟩; rotate_left; (focus (go_simp; first | done | with_reducible rfl)); try simp only [Act.put, List.setIfInBounds_toArray, List.set_cons_zero, List.set_cons_succ])
      (refine wpSeq_mov rfl rfl ?_; intro o ho; simp only [List.getElem?_toArray, List.getElem?_cons_zero, List.getElem?_cons_succ, Option.some.injEq] at ho; subst ho; refine ⟨?_, Or.inl ⟨by rfl, fun W hSW => ?_⟩, ?_⟩; rotate_left; (focus (go_simp; first | done | with_reducible rfl)); try simp only [Act.put, List.setIfInBounds_toArray, List.set_cons_zero, List.set_cons_succ])
      (refine wpSeq_fix rfl rfl ?_; intro o ho; simp only [List.getElem?_toArray, List.getElem?_cons_zero, List.getElem?_cons_succ, Option.some.injEq] at ho; subst ho; intro K hK)
      go_simp
      (refine hK.out _ _ (fun _ => ⟨HM3.out.sb.cell 2, HM3.out.under (x := x) (by omega)⟩) ?_; clear hK K; try simp only [Act.put, List.setIfInBounds_toArray, List.set_cons_zero, List.set_cons_succ])
      (refine wpSeq_fix rfl rfl ?_; intro o ho; simp only [List.getElem?_toArray, List.getElem?_cons_zero, List.getElem?_cons_succ, Option.some.injEq] at ho; subst ho; intro K hK)
      refine step_append_int rfl (.tmp 39) (.tmp 41) rfl base (G1.und x).length (natV (G1.und x)) (.slice (G1.U x).1 (G1.und x).length (G1.U x).2) rfl (HM3.out.ur x) w2.heap.size (.int .i64 (s.cls.length : Int)) rfl rfl (Blk.new _ _ _) (by omega) HM3.out.base_le ?_
      intro A9 c9 w9 ho9 hc9 hg9 hat9
      obtain ⟨w10, o2, hmu, hm10, ho10, hf10⟩ := HM3.out.push_und (k := s.cls.length) (x := x) (by omega) (by have := H1.out.un; unfold maxLen; omega) ho9 hg9 hat9
      have HP := Lib.hid (And.intro hm10 (And.intro ho10 hf10))
      have hcb := HM3.out.grown_s hg9 (l := .und x) (by simp) (HM3.out.uro x)
      have hlk9 := under_map (HM3.out.mp.same (hg9.block _ (HM3.out.ol _ _ HM3.out.mpo).2 fun e => by have := HM3.out.uro x _ e.symm; rw [HM3.out.mpo] at this; cases this)) HM3.out.uz (x := x) (by omega)
      have HC9 := Lib.hid (And.intro ((hcb.1 2).trans (HM3.out.sb.cell 2)) hlk9)
      clear ho9 hg9 hat9 hm10 ho10 hf10 hc9 hcb hlk9
      (refine hK.out _ _ (fun _ => HC9.out) ?_; clear hK K; try simp only [Act.put, List.setIfInBounds_toArray, List.set_cons_zero, List.set_cons_succ])
      (refine wpSeq_fix rfl rfl ?_; intro o ho; simp only [List.getElem?_toArray, List.getElem?_cons_zero, List.getElem?_cons_succ, Option.some.injEq] at ho; subst ho; intro K hK)
      go_simp
      (refine hK.out _ _ (fun h => by simp at h) ?_; clear hK K; try simp only [Act.put, List.setIfInBounds_toArray, List.set_cons_zero, List.set_cons_succ])
      refine wpSeq_done ?_
      clear hmu
      go_wp2_with fail
      go_roundw
      case rel =>
        have hun := H1.out.un
        refine ⟨j + 1, _, o2, by omega, by go_num, ⟨HP.out.1, H1.out.V, H1.out.LV, H1.out.RV, ?_, by show G1.un + 1 ≤ _; omega, H1.out.dead, ?_, HF3.out.trans HP.out.2.2 H1.out.olds⟩, HCS.out⟩
        · show (fun y => if y = x then G1.und x ++ [s.cls.length] else G1.und y) = _
          rw [undAdd_step HX.out HND.out, H1.out.und]
        · exact H1.out.olds.trans HF3.out.size HP.out.2.1
      case measure => simp [intOf]; omega
    · have hlt' : ¬ (j : Int) < (c.length : Int) := by omega
      have hjE : j = c.length := by omega
      subst hjE
      have HVC := Lib.hid (H1.out.m.cl s.cls.length c (A, cp) (by show (s.cls ++ [c])[_]? = _; simp) (by rw [HCS.out, ← HS.out.csl]; simp)).1
      go_wp2_with fail
      go_ret
      exact ⟨rfl, G1, o1, H1.out, HVC.out⟩
end
end Go.Proofs.Ytbkmgblijncjhaa

set_option linter.unusedVariables false
set_option linter.unusedSimpArgs false
namespace Go.Proofs.Ytbkmgblijncjhaa
open Go.RowKit Go.Maps

/-- While one learns: the solver (but for weights), the map of seen variables, the row that is put out. -/
structure LrnM (w wr : World) (base b n : Nat) (s : SS) (G : SG) (o : Owns) (sm un : Nat) (seen : Int → Bool) (out : List Int) (A : Option Addr) (c : Nat) (W : List Int) : Prop where
  m : SMem wr base b n s { G with WV := W } o
  map : IMap Try.prog 3 wr sm un (fun v => if seen v = true then some (.agg #[]) else none)
  smw : w.heap.size ≤ sm
  row : wr.ownsRow w.heap.size 3 1 (.slice A (out.length + 1) c) (out.length + 1) (i64s (0 :: out))
  one : ∀ k, (Value.slice A (out.length + 1) c).ownBlock = some k → k ≠ sm
  ol : ∀ k l, o k = some l → k < w.heap.size
  fr : SFr o w wr
section
variable {w wr w' w9 : World} {base b n sm un c : Nat} {s : SS} {G : SG} {o : Owns} {seen : Int → Bool} {out : List Int} {A : Option Addr} {W : List Int}
theorem LrnM.new (h : LrnM w wr base b n s G o sm un seen out A c W) {k : Nat} (hk : w.heap.size ≤ k) : o k = none := by
  cases e : o k with
  | none => rfl
  | some l =>
    have := h.ol k l e
    omega
theorem LrnM.after (h : LrnM w wr base b n s G o sm un seen out A c W) (hb : Below wr.heap.size wr w') : LrnM w w' base b n s G o sm un seen out A c W :=
  ⟨h.m.after hb, h.map.after hb, h.smw, own_below h.row hb, h.one, h.ol, h.fr.trans (SFr.of_below hb o) (Olds.refl _ _)⟩
theorem LrnM.weight (h : LrnM w wr base b n s G o sm un seen out A c W) (i : Nat) (u : Int) : LrnM w (wr.setCell ⟨G.wb, i, none⟩ (.int .i64 u)) base b n s G o sm un seen out A c (W.set i u) := by
  have hwb : o G.wb = some .wt := h.m.wt.own
  have hlt := h.ol _ _ hwb
  refine ⟨h.m.set_wt i u, h.map.far (p := ⟨G.wb, i, none⟩) (by have := h.smw; simp; omega) _, h.smw, row_keep h.row fun k e => Below.heap_setCell wr ⟨G.wb, i, none⟩ _ k ?_, h.one, h.ol, h.fr.set _ (.inr (by rw [hwb]; simp))⟩
  have := (h.row.lt k e).1
  show k ≠ G.wb
  omega
theorem LrnM.see (h : LrnM w wr base b n s G o sm un seen out A c W) (hun : un ≤ 8000000000000000000) {v : Int} (hv : -9223372036854775808 ≤ v ∧ v ≤ 9223372036854775807) :
    ∃ w', (Instr.mapUpdate 116 (.map (some sm)) (.int .i64 v) (.agg #[])).run Try.prog wr = .ok () w' ∧ LrnM w w' base b n s G o sm (un + 1) (addS seen v) out A c W := by
  obtain ⟨w', hr, hm, hg⟩ := h.map.store Try.underlying3 Try.underlying116 (by unfold maxLen; omega) hv.1 hv.2 (.agg #[])
  refine ⟨w', hr, h.m.keep hg.size fun k l e => hg.block k (h.m.ol k l e).2 fun e2 => ?_, hm.congr fun y => ?_, h.smw, row_keep h.row fun k e => hg.block k (h.row.lt k e).2 fun e2 => h.one k e (Option.some.inj e2), h.one, h.ol, h.fr.grown hg fun k e => .inl ?_⟩
  · have := h.ol k l e
    have := Option.some.inj e2
    have := h.smw
    omega
  · unfold putI addS
    by_cases e : y = v
    · simp [e]
    · simp [e]
  · cases e
    exact h.smw
/-- One literal more is put out. -/
theorem LrnM.push (h : LrnM w wr base b n s G o sm un seen out A c W) {y : Int} {A' : Option Addr} {c' : Nat} (ho : w9.ownsRow w.heap.size 3 1 (.slice A' (out.length + 1 + 1) c') (out.length + 1 + 1) (i64s (0 :: out) ++ [.int .i64 y])) (hg : wr.grownBy w9 (Value.slice A (out.length + 1) c).ownBlock)
    (hat : (Value.slice A' (out.length + 1 + 1) c').ownBlock = (Value.slice A (out.length + 1) c).ownBlock ∨ (Value.slice A' (out.length + 1 + 1) c').ownBlock = some wr.heap.size) : LrnM w w9 base b n s G o sm un seen (out ++ [y]) A' c' W := by
  have hro : ∀ k, (Value.slice A (out.length + 1) c).ownBlock = some k → w.heap.size ≤ k := fun k e => (h.row.lt k e).1
  have hsl := h.map.lt
  have e1 : (out ++ [y]).length + 1 = out.length + 1 + 1 := by simp
  refine ⟨h.m.keep hg.size fun k l e => hg.block k (h.m.ol k l e).2 fun e2 => ?_, h.map.same (hg.block sm hsl fun e2 => h.one sm e2.symm rfl), h.smw, ?_, fun k e e2 => ?_, h.ol, h.fr.grown hg fun k e => .inl (hro k e)⟩
  · have := hro k e2.symm
    have := h.ol k l e
    omega
  · rw [e1]
    have e2 : i64s (0 :: (out ++ [y])) = i64s (0 :: out) ++ [.int .i64 y] := by simp [i64s]
    rw [e2]
    exact ho
  · rw [e1] at e
    rcases hat with e3 | e3
    · exact h.one k (e3.symm.trans e) e2
    · rw [e3] at e
      have := Option.some.inj e
      omega
theorem zeroUnit (w : World) : (zeroValue 62).run Try.prog w = .ok (.agg #[]) w := by kernel_rfl
theorem LrnM.look (h : LrnM w wr base b n s G o sm un seen out A c W) {v : Int} (hv : -9223372036854775808 ≤ v ∧ v ≤ 9223372036854775807) :
    (Instr.lookup 116 (.map (some sm)) (.int .i64 v) true).run Try.prog wr = .ok (.tuple #[.agg #[], .bool (seen v)]) wr := by
  rw [h.map.look_ok (e := 62) Try.underlying3 Try.underlying116 (zeroUnit wr) hv.1 hv.2]
  cases seen v <;> rfl
end
theorem cnt_le {L : List Int} {seen : Int → Bool} {q : Nat} : ∀ a, cntS L seen q a ≤ a
  | 0 => Nat.le_refl _
  | a + 1 => by
    have := cnt_le (L := L) (seen := seen) (q := q) a
    simp only [cntS]
    split <;> omega
theorem LI.out_len {n : Nat} {F : List (List Int)} {s : SS} {q opn a j lv : Nat} {seen : Int → Bool} {out c : List Int} {x : Int} (h : LI n F s q seen out opn a x c j lv) (hi : Inv n F s) : out.length ≤ n := by
  have := length_le_of_nodup n (out.map Int.natAbs) h.ond (fun v hv => by
    obtain ⟨y, hy, rfl⟩ := List.mem_map.1 hv
    obtain ⟨p, _, h8, _⟩ := h.so y hy
    have := hi.trng _ (List.mem_of_getElem? h8)
    omega)
  rwa [List.length_map] at this
end Go.Proofs.Ytbkmgblijncjhaa

set_option linter.unusedVariables false
set_option linter.unusedSimpArgs false
namespace Go.Proofs.Ytbkmgblijncjhaa
open Go.RowKit Go.Maps

/-- What learn leaves: the clause in a row of its own. -/
def LearnPost (w : World) (base b n : Nat) (F : List (List Int)) (s : SS) (G : SG) (o : Owns) (e : Ending) (w' : World) : Prop :=
  ∃ (x : Int) (out : List Int) (lv p : Nat) (A : Option Addr) (c : Nat) (W : List Int), e = .returned (.tuple #[.slice A (out.length + 1) c, .int .i64 (lv : Int)]) ∧ Learnt n F s x out lv p ∧ SMem w' base b n s { G with WV := W } o ∧ w'.ownsRow w.heap.size 3 1 (.slice A (out.length + 1) c) (out.length + 1) (i64s (-x :: out)) ∧ SFr o w w' ∧ out.length ≤ n ∧ (∀ k l, o k = some l → k < w.heap.size)
theorem SMem.cell_lv {w : World} {base b n : Nat} {s : SS} {G : SG} {o : Owns} (h : SMem w base b n s G o) (hr : SRel n s G) {p : Nat} {y : Int} (hp : s.lits[p]? = some y) : w.cell? ⟨G.lb, y.natAbs, none⟩ = some (.int .i64 (levAt s.lims p : Int)) := h.l.cell (hr.lv p y hp)

theorem SMem.clause_at {w : World} {base b n : Nat} {s : SS} {G : SG} {o : Owns} (h : SMem w base b n s G o) {k : Nat} {c : List Int} {Ad : Option Addr × Nat} (hk : s.cls[k]? = some c) (hA : G.CS[k]? = some Ad) : ∃ (q p : Nat), G.C = some ⟨q, p, none⟩ ∧ w.cell? ⟨q, p + k, none⟩ = some (.slice Ad.1 c.length Ad.2) := by
  obtain ⟨q, p, e, _, hc⟩ := Vals.of_own h.cs k (clV (c, Ad)) (by
    rw [List.getElem?_map, List.getElem?_zip_eq_some (z := (c, Ad)) |>.2 ⟨hk, hA⟩]
    rfl)
  exact ⟨q, p, e, hc⟩
/-- In learn's loops. -/
def LrnR (w : World) (base b n : Nat) (F : List (List Int)) (s : SS) (G : SG) (o : Owns) (q sm : Nat) (ov lvv opv : Value) (a : Nat) (x : Int) (c : List Int) (j : Nat) (wr : World) : Prop :=
  ∃ (seen : Int → Bool) (out : List Int) (A : Option Addr) (cp opn lv un : Nat) (W : List Int), ov = .slice A (out.length + 1) cp ∧ lvv = .int .i64 (lv : Int) ∧ opv = .int .i64 (opn : Int) ∧ LI n F s q seen out opn a x c j lv ∧ LrnM w wr base b n s G o sm un seen out A cp W ∧ un ≤ out.length + opn + (s.tr.length - a)

set_option maxRecDepth 100000 in
set_option maxHeartbeats 8000000 in
theorem learn_any {w : World} {base b n : Nat} {F : List (List Int)} {s : SS} {G : SG} {o : Owns} (h : SMem w base b n s G o) (hr : SRel n s G) (hi : Inv n F s) (hw : Wat s) (hn : n ≤ 1000000) (hlm : s.lims ≠ []) {k : Nat} {c : List Int} (hc : s.cls[k]? = some c) (hf : ∀ y ∈ c, -y ∈ s.lits) :
    Calls Try.prog 55 #[.pointer (some ⟨b, 0, none⟩), .int .i64 (k : Int)] w (LearnPost w base b n F s G o) := by
  have hlp := List.length_pos_iff.2 hlm
  obtain ⟨q, hq⟩ : ∃ q, s.lims[s.lims.length - 1]? = some q := ⟨_, List.getElem?_eq_getElem (by omega)⟩
  have hlen := hi.len
  obtain ⟨qt, eT, _⟩ := own_some h.tr (by have := hi.llt q (List.mem_of_getElem? hq); omega)
  have HET := Lib.hid eT
  clear eT
  have HL0 := Lib.hid (hi.learn_start hw hq (List.mem_of_getElem? hc) hf)
  have HR := Lib.hid hr
  have HI := Lib.hid hi
  have HQ := Lib.hid hq
  have HC := Lib.hid hc
  have HS := Lib.hid h
  have hmm := @run_makeMap Try.prog
  clear h hr hi hw hq hc hf
  go_enter Try.func55, Try.ntmps55
  go_wp2_with fail
  refine wp_region_noPanic ?_
  refine wp_region_seq (fun W => W.cell? ⟨b, 8, none⟩ = some (.slice G.T s.tr.length G.ct)) [0, 5, 1, 2, 3, 4, 6, 7] [0, 1, 2, 3, 4, 5, 6, 7] [] (by kernel_rfl) (by kernel_rfl) rfl (by kernel_rfl) (by kernel_rfl) (fun _ _ _ _ _ h => h) ?_ (fun hSS => ?_)
  · exact (HS.out.after (stepA w (.map #[] 0))).sb.cell 8
  clear hSS hmm
  have HB2 := Lib.hid (step2 (stepA w (.map #[] 0)) (stepD1 _))
  have hsm : w.heap.size < (w.alloc (.map #[] 0)).drew.heap.size := by
    show w.heap.size < (w.alloc (.map #[] 0)).heap.size
    simp
  have HM2 : Hid (IMap Try.prog 3 (w.alloc (.map #[] 0)).drew w.heap.size 0 (fun _ => none)) := Lib.hid (IMap.made Try.prog 3 w)
  generalize (w.alloc (.map #[] 0)).drew = w2 at HB2 HM2 hsm ⊢
  (refine wpSeq_mov rfl rfl ?_; intro o ho; simp only [List.getElem?_toArray, List.getElem?_cons_zero, List.getElem?_cons_succ, Option.some.injEq] at ho; subst ho; refine ⟨?_, Or.inl ⟨by rfl, fun W hSW => ?_⟩, ?_⟩; rotate_left; (focus (go_simp; first | done | with_reducible rfl)); try simp only [Act.put, List.setIfInBounds_toArray, List.set_cons_zero, List.set_cons_succ])
  (refine wpSeq_mov rfl rfl ?_; intro o ho; simp only [List.getElem?_toArray, List.getElem?_cons_zero, List.getElem?_cons_succ, Option.some.injEq] at ho; subst ho; refine ⟨?_, Or.inl ⟨by rfl, fun W hSW => ?_⟩, ?_⟩; rotate_left; (focus (go_simp; first | done | with_reducible rfl)); try simp only [Act.put, List.setIfInBounds_toArray, List.set_cons_zero, List.set_cons_succ])
  (refine wpSeq_mov rfl rfl ?_; intro o ho; simp only [List.getElem?_toArray, List.getElem?_cons_zero, List.getElem?_cons_succ, Option.some.injEq] at ho; subst ho; refine ⟨?_, Or.inl ⟨by rfl, fun W hSW => ?_⟩, ?_⟩; rotate_left; (focus (go_simp; first | done | with_reducible rfl)); try simp only [Act.put, List.setIfInBounds_toArray, List.set_cons_zero, List.set_cons_succ])
  (refine wpSeq_mov rfl rfl ?_; intro o ho; simp only [List.getElem?_toArray, List.getElem?_cons_zero, List.getElem?_cons_succ, Option.some.injEq] at ho; subst ho; refine ⟨?_, Or.inl ⟨by rfl, fun W hSW => ?_⟩, ?_⟩; rotate_left; (focus (go_simp; first | done | with_reducible rfl)); try simp only [Act.put, List.setIfInBounds_toArray, List.set_cons_zero, List.set_cons_succ])
  (refine wpSeq_mov rfl rfl ?_; intro o ho; simp only [List.getElem?_toArray, List.getElem?_cons_zero, List.getElem?_cons_succ, Option.some.injEq] at ho; subst ho; refine ⟨?_, Or.inl ⟨by rfl, fun W hSW => ?_⟩, ?_⟩; rotate_left; (focus (go_simp; first | done | with_reducible rfl)); try simp only [Act.put, List.setIfInBounds_toArray, List.set_cons_zero, List.set_cons_succ])
  (refine wpSeq_mov rfl rfl ?_; intro o ho; simp only [List.getElem?_toArray, List.getElem?_cons_zero, List.getElem?_cons_succ, Option.some.injEq] at ho; subst ho; refine ⟨?_, Or.inl ⟨by rfl, fun W hSW => ?_⟩, ?_⟩; rotate_left; (focus (go_simp; first | done | with_reducible rfl)); try simp only [Act.put, List.setIfInBounds_toArray, List.set_cons_zero, List.set_cons_succ])
  (refine wpSeq_mov rfl rfl ?_; intro o ho; simp only [List.getElem?_toArray, List.getElem?_cons_zero, List.getElem?_cons_succ, Option.some.injEq] at ho; subst ho; refine ⟨?_, Or.inl ⟨by rfl, fun W hSW => ?_⟩, ?_⟩; rotate_left; (focus (go_simp; first | done | with_reducible rfl)); try simp only [Act.put, List.setIfInBounds_toArray, List.set_cons_zero, List.set_cons_succ])
  (refine wpSeq_mov rfl rfl ?_; intro o ho; simp only [List.getElem?_toArray, List.getElem?_cons_zero, List.getElem?_cons_succ, Option.some.injEq] at ho; subst ho; refine ⟨?_, Or.inl ⟨by rfl, fun W hSW => ?_⟩, ?_⟩; rotate_left; (focus (go_simp; first | done | with_reducible rfl)); try simp only [Act.put, List.setIfInBounds_toArray, List.set_cons_zero, List.set_cons_succ])
  refine wpSeq_done ?_
  go_wp2_with fail
  have HL3 : Hid (LrnM w (w2.alloc (.cells #[.int .i64 0] 3)) base b n s G o w.heap.size 0 (fun _ => false) [] (some ⟨w2.heap.size, 0, none⟩) 1 G.WV) := Lib.hid (by
    have hb := step2 HB2.out (stepA w2 (.cells #[.int .i64 0] 3))
    refine ⟨HS.out.after hb, (GMap.alloc HM2.out _).congr fun l => by rfl, Nat.le_refl _, ⟨rfl, .inr ⟨w2.heap.size, 1, #[.int .i64 0], rfl, HB2.out.size, Blk.new w2 _ _, Nat.le_refl _, by unfold maxLen; omega, rfl, rfl⟩⟩, fun k e => ?_, fun k l e => (HS.out.ol k l e).2, SFr.of_below hb o⟩
    have := Option.some.inj e
    have h2 : w2.heap.size = k := this
    omega)
  obtain ⟨sm, hsmE⟩ : ∃ sm, sm = w.heap.size := ⟨_, rfl⟩
  rw [← hsmE] at HL3 ⊢
  clear hsmE
  clear HB2 HM2 hsm
  generalize w2.alloc (.cells #[.int .i64 0] 3) = w3 at HL3 ⊢
  generalize w2.heap.size = g2 at HL3 ⊢
  go_loopw [1, 4, 5, 7, 8, 9] (fun nv ov lvv opv av xv wr => ∃ (k : Nat) (c : List Int) (a : Nat) (x : Int), nv = .int .i64 (k : Int) ∧ av = .int .i64 (a : Int) ∧ xv = .int .i64 x ∧ s.cls[k]? = some c ∧ LrnR w base b n F s G o q sm ov lvv opv a x c 0 wr) (fun _ _ _ _ av _ _ => (intOf av).toNat)
  case atStart => exact ⟨k, c, s.tr.length, 0, rfl, rfl, rfl, HC.out, fun _ => false, [], _, 1, 0, 0, 0, G.WV, rfl, rfl, rfl, HL0.out, HL3.out, by omega⟩
  case round =>
    obtain ⟨k, c, a, x, rfl, rfl, rfl, hck, hR⟩ := hrel
    have HCK := Lib.hid hck
    have HRR := Lib.hid hR
    clear HL0 HC hck hR HL3
    obtain ⟨Ad, hAd⟩ : ∃ Ad, G.CS[k]? = some Ad := ⟨_, List.getElem?_eq_getElem (by rw [HS.out.csl]; exact (List.getElem?_eq_some_iff.1 HCK.out).1)⟩
    have HAD := Lib.hid hAd
    clear hAd
    have hkl : (k : Int) < (s.cls.length : Int) := by have := (List.getElem?_eq_some_iff.1 HCK.out).1; omega
    have hcn := clause_len HI.out (List.mem_of_getElem? HCK.out)
    have hrng := HI.out.rng c (List.mem_of_getElem? HCK.out)
    have HRG := Lib.hid hrng
    clear hrng
    have hfx : Hid (∃ qc pc, G.C = some ⟨qc, pc, none⟩ ∧ wr.cell? ⟨qc, pc + k, none⟩ = some (.slice Ad.1 c.length Ad.2) ∧ wr.cell? ⟨b, 1, none⟩ = some (.slice (some ⟨qc, pc, none⟩) s.cls.length G.cc)) := Lib.hid (by
      obtain ⟨_, _, _, _, _, _, _, W, _, _, _, _, hM, _⟩ := HRR.out
      obtain ⟨qc, pc, e, hc⟩ := hM.m.clause_at HCK.out (show ({ G with WV := W } : SG).CS[k]? = some Ad from HAD.out)
      exact ⟨qc, pc, e, hc, (hM.m.sb.cell 1).trans (by show some (Value.slice G.C _ _) = _; rw [show G.C = some ⟨qc, pc, none⟩ from e])⟩)
    obtain ⟨qc, pc, _, ck, c1⟩ := hfx.out
    clear hfx
    go_wp2_with fail
    clear ck c1
    go_loopw [4, 5, 7, 32] (fun ov lvv opv iv wr => ∃ j : Nat, j ≤ c.length ∧ iv = .int .i64 (j : Int) ∧ LrnR w base b n F s G o q sm ov lvv opv a x c j wr) (fun _ _ _ iv _ => c.length - (intOf iv).toNat)
    case atStart => exact ⟨0, Nat.zero_le _, rfl, HRR.out⟩
    case round =>
      obtain ⟨j, hj, rfl, seen, out, A, cp, opn, lv, un, W, rfl, rfl, rfl, hli, hlm, hun⟩ := hrel
      have HLI := Lib.hid hli
      have HLM := Lib.hid hlm
      clear hli hlm HRR
      have hol := HLI.out.out_len HI.out
      have hal := HLI.out.ha
      have hcnt : opn ≤ a := by rw [HLI.out.cnt]; exact cnt_le a
      by_cases hlt : j < c.length
      · have hlt' : (j : Int) < (c.length : Int) := by omega
        obtain ⟨y, hy⟩ : ∃ y, c[j]? = some y := ⟨_, List.getElem?_eq_getElem hlt⟩
        have hyr := HRG.out y (List.mem_of_getElem? hy)
        have hcy := (HLM.out.m.cl k c Ad HCK.out HAD.out).1
        obtain ⟨qy, py, eAd, _, hcy⟩ := hcy j (.int .i64 y) (i64s_at hy)
        have HY := Lib.hid hy
        have HAB := Lib.hid (abs_any y wr (by omega))
        obtain ⟨v, hv⟩ : ∃ v : Nat, y.natAbs = v := ⟨_, rfl⟩
        rw [hv] at HAB
        have HV := Lib.hid hv
        have hlk := HLM.out.look (v := (v : Int)) (by omega)
        clear hy hv
        rw [eAd]
        go_wp2_with fail
        refine HAB.out.mono ?_
        rintro e w1 ⟨rfl, hw⟩
        have hw' := hw.symm
        subst hw'
        clear hw HAB hcy
        by_cases hs : seen (v : Int) = true
        · rw [hs] at hlk
          have HSN := Lib.hid hs
          clear hs
          go_wp2_with fail
          go_roundw
          case rel => exact ⟨j + 1, by omega, by go_num, seen, out, A, cp, opn, lv, un, W, rfl, rfl, rfl, HLI.out.had HY.out (.inl (by rw [HV.out]; exact HSN.out)), HLM.out.after (stepA _ _), hun⟩
          case measure => simp [intOf]; omega
        · have hs' : seen (v : Int) = false := by simpa using hs
          rw [hs'] at hlk
          have hyx : y ≠ x := fun e => by
            have h0 := HLI.out.xs (by rw [← e]; exact hyr.1)
            rw [← e, HV.out, hs'] at h0
            cases h0
          obtain ⟨p, hpa, hp⟩ := mem_take_iff.1 (HLI.out.cf y (List.mem_of_getElem? HY.out) hyx)
          have HLM8 := Lib.hid (HLM.out.after (stepA wr (.cells #[] 62)))
          have hrel : SRel n s { G with WV := W } := ⟨HR.out.vv, HR.out.lv, HR.out.rv, HR.out.ui⟩
          have hnv : ((-y).natAbs) = v := by have := HV.out; omega
          have hlc := HLM8.out.m.cell_lv hrel hp
          rw [hnv] at hlc
          have c4 : (wr.alloc (.cells #[] 62)).cell? ⟨b, 4, none⟩ = some (.slice (some ⟨G.lb, 0, none⟩) (n + 1) (n + 1)) := HLM8.out.m.sb.cell 4
          have HP := Lib.hid hp
          have HSF := Lib.hid hs'
          have hvn : (v : Int) < (n : Int) + 1 := by have := HV.out; omega
          have hvn' : v ≤ n := by have := HV.out; omega
          obtain ⟨L, hL⟩ : ∃ L, L = levAt s.lims p := ⟨_, rfl⟩
          have HL := Lib.hid hL
          rw [← hL] at hlc
          clear hs hs' hp hL hnv
          by_cases hL0 : L = 0
          · have hL0' : ((L : Int) == 0) = true := by simp [hL0]
            have HL0 := Lib.hid hL0
            clear hL0
            go_wp2_with fail
            go_roundw
            case rel => exact ⟨j + 1, by omega, by go_num, seen, out, A, cp, opn, lv, un, W, rfl, rfl, rfl, HLI.out.had HY.out (.inr ⟨p, HP.out, by rw [← HL.out, HL0.out]⟩), HLM8.out, hun⟩
            case measure => simp [intOf]; omega
          · have hL0' : ((L : Int) == 0) = false := by simp; omega
            obtain ⟨w9, hmu, hLM9⟩ := HLM8.out.see (v := (v : Int)) (by omega) (by omega)
            have HLM9 := Lib.hid hLM9
            clear hLM9
            have c7 : w9.cell? ⟨b, 7, none⟩ = some (.slice (some ⟨G.wb, 0, none⟩) (n + 1) (n + 1)) := HLM9.out.m.sb.cell 7
            obtain ⟨u, hu⟩ := HLM9.out.m.wt.ex (i := v) hvn'
            have hcu : w9.cell? ⟨G.wb, v, none⟩ = some (.int .i64 u) := HLM9.out.m.wt.cell hu
            have hfu : w9.frozen? ⟨G.wb, v, none⟩ = false := HLM9.out.m.wt.blk.frozen v
            have HLM10 := Lib.hid (HLM9.out.weight v (wrap64 (u + 1)))
            clear hu
            go_wp2_with fail
            clear c4 hlc c7 hcu hfu hmu hlk
            generalize w9.setCell ⟨G.wb, v, none⟩ (.int .i64 (wrap64 (u + 1))) = w10 at HLM10 ⊢
            obtain ⟨W2, hW2⟩ : ∃ W2, W2 = W.set v (wrap64 (u + 1)) := ⟨_, rfl⟩
            rw [← hW2] at HLM10
            clear hW2
            have hrel2 : SRel n s { G with WV := W2 } := ⟨HR.out.vv, HR.out.lv, HR.out.rv, HR.out.ui⟩
            have HLC : Hid (∀ Wd, Below w10.heap.size w10 Wd → Wd.cell? ⟨b, 4, none⟩ = some (.slice (some ⟨G.lb, 0, none⟩) (n + 1) (n + 1)) ∧ Wd.cell? ⟨b, 10, none⟩ = some (.slice G.L s.lims.length G.cl) ∧ Wd.cell? ⟨G.lb, v, none⟩ = some (.int .i64 (L : Int))) := Lib.hid fun Wd hb => by
              have h1 := HLM10.out.after hb
              have h2 := h1.m.cell_lv hrel2 HP.out
              rw [show ((-y).natAbs) = v by have := HV.out; omega, ← HL.out] at h2
              exact ⟨h1.m.sb.cell 4, h1.m.sb.cell 10, h2⟩
            have hLn : L ≤ s.lims.length := by rw [HL.out]; exact List.countP_le_length
            have hll : s.lims.length ≤ 1000000 := by
              have := length_le_of_nodup s.tr.length (s.lims.map (· + 1)) (List.pairwise_map.2 (HI.out.lpw.imp fun {a b} h => by omega)) (fun v hv => by
                obtain ⟨l, hl, rfl⟩ := List.mem_map.1 hv
                have := HI.out.llt l hl
                omega)
              rw [List.length_map] at this
              omega
            refine wp_region_noPanic ?_
            refine wp_region_seq (fun Wd => Wd.cell? ⟨b, 4, none⟩ = some (.slice (some ⟨G.lb, 0, none⟩) (n + 1) (n + 1)) ∧ Wd.cell? ⟨b, 10, none⟩ = some (.slice G.L s.lims.length G.cl) ∧ Wd.cell? ⟨G.lb, v, none⟩ = some (.int .i64 (L : Int))) [0, 4, 7, 1, 2, 3, 5, 6, 8, 9, 10, 11, 12] [0, 1, 2, 3, 4, 5, 6, 7, 8, 9, 10, 11, 12] [] (by kernel_rfl) (by kernel_rfl) rfl (by kernel_rfl) (by kernel_rfl) (fun _ _ _ _ _ h => h) ?_ (fun hSS => ?_)
            · exact HLC.out _ (stepD1 _)
            clear hSS
            have HLM11 := Lib.hid (HLM10.out.after (stepD1 w10))
            have HLC11 := Lib.hid (fun Wd (h : Below w10.drew.heap.size w10.drew Wd) => HLC.out Wd (step2 (stepD1 w10) h))
            clear HLC HLM10
            generalize w10.drew = w11 at HLM11 HLC11 ⊢
            have hpq := HI.out.lev_last HQ.out p
            rw [← HL.out] at hpq
            have HPQ := Lib.hid hpq
            clear hpq
            by_cases hLc : L = s.lims.length
            · have hLc' : ((L : Int) == (s.lims.length : Int)) = true := by simp [hLc]
              have hq := HPQ.out.2 hLc
              have HLI2 := Lib.hid (HLI.out.cur HI.out HY.out (by rw [HV.out]; exact HSF.out) HP.out hq)
              rw [HV.out] at HLI2
              clear hLc
              (refine wpSeq_mov rfl rfl ?_; intro o ho; simp only [List.getElem?_toArray, List.getElem?_cons_zero, List.getElem?_cons_succ, Option.some.injEq] at ho; subst ho; refine ⟨?_, Or.inl ⟨by rfl, fun W hSW => ?_⟩, ?_⟩; rotate_left; (focus (go_simp; first | done | with_reducible rfl)); try simp only [Act.put, List.setIfInBounds_toArray, List.set_cons_zero, List.set_cons_succ])
              (refine wpSeq_mov rfl rfl ?_; intro o ho; simp only [List.getElem?_toArray, List.getElem?_cons_zero, List.getElem?_cons_succ, Option.some.injEq] at ho; subst ho; refine ⟨?_, Or.inl ⟨by rfl, fun W hSW => ?_⟩, ?_⟩; rotate_left; (focus (go_simp; first | done | with_reducible rfl)); try simp only [Act.put, List.setIfInBounds_toArray, List.set_cons_zero, List.set_cons_succ])
              (refine wpSeq_mov rfl rfl ?_; intro o ho; simp only [List.getElem?_toArray, List.getElem?_cons_zero, List.getElem?_cons_succ, Option.some.injEq] at ho; subst ho; refine ⟨?_, Or.inl ⟨by rfl, fun W hSW => ?_⟩, ?_⟩; rotate_left; (focus (go_simp; first | done | with_reducible rfl)); try simp only [Act.put, List.setIfInBounds_toArray, List.set_cons_zero, List.set_cons_succ])
              (refine wpSeq_mov rfl rfl ?_; intro o ho; simp only [List.getElem?_toArray, List.getElem?_cons_zero, List.getElem?_cons_succ, Option.some.injEq] at ho; subst ho; refine ⟨?_, Or.inl ⟨by rfl, fun W hSW => ?_⟩, ?_⟩; rotate_left; (focus (go_simp; first | done | with_reducible rfl)); try simp only [Act.put, List.setIfInBounds_toArray, List.set_cons_zero, List.set_cons_succ])
              (refine wpSeq_mov rfl rfl ?_; intro o ho; simp only [List.getElem?_toArray, List.getElem?_cons_zero, List.getElem?_cons_succ, Option.some.injEq] at ho; subst ho; refine ⟨?_, Or.inl ⟨by rfl, fun W hSW => ?_⟩, ?_⟩; rotate_left; (focus (go_simp; first | done | with_reducible rfl)); try simp only [Act.put, List.setIfInBounds_toArray, List.set_cons_zero, List.set_cons_succ])
              (refine wpSeq_mov rfl rfl ?_; intro o ho; simp only [List.getElem?_toArray, List.getElem?_cons_zero, List.getElem?_cons_succ, Option.some.injEq] at ho; subst ho; refine ⟨?_, Or.inl ⟨by rfl, fun W hSW => ?_⟩, ?_⟩; rotate_left; (focus (go_simp; first | done | with_reducible rfl)); try simp only [Act.put, List.setIfInBounds_toArray, List.set_cons_zero, List.set_cons_succ])
              (refine wpSeq_mov rfl rfl ?_; intro o ho; simp only [List.getElem?_toArray, List.getElem?_cons_zero, List.getElem?_cons_succ, Option.some.injEq] at ho; subst ho; refine ⟨?_, Or.inl ⟨by rfl, fun W hSW => ?_⟩, ?_⟩; rotate_left; (focus (go_simp; first | done | with_reducible rfl)); try simp only [Act.put, List.setIfInBounds_toArray, List.set_cons_zero, List.set_cons_succ])
              (refine wpSeq_mov rfl rfl ?_; intro o ho; simp only [List.getElem?_toArray, List.getElem?_cons_zero, List.getElem?_cons_succ, Option.some.injEq] at ho; subst ho; refine ⟨?_, Or.inl ⟨by rfl, fun W hSW => ?_⟩, ?_⟩; rotate_left; (focus (go_simp; first | done | with_reducible rfl)); try simp only [Act.put, List.setIfInBounds_toArray, List.set_cons_zero, List.set_cons_succ])
              (refine wpSeq_mov rfl rfl ?_; intro o ho; simp only [List.getElem?_toArray, List.getElem?_cons_zero, List.getElem?_cons_succ, Option.some.injEq] at ho; subst ho; refine ⟨?_, Or.inl ⟨by rfl, fun W hSW => ?_⟩, ?_⟩; rotate_left; (focus (go_simp; first | done | with_reducible rfl)); try simp only [Act.put, List.setIfInBounds_toArray, List.set_cons_zero, List.set_cons_succ])
              (refine wpSeq_mov rfl rfl ?_; intro o ho; simp only [List.getElem?_toArray, List.getElem?_cons_zero, List.getElem?_cons_succ, Option.some.injEq] at ho; subst ho; refine ⟨?_, Or.inl ⟨by rfl, fun W hSW => ?_⟩, ?_⟩; rotate_left; (focus (go_simp; first | done | with_reducible rfl)); try simp only [Act.put, List.setIfInBounds_toArray, List.set_cons_zero, List.set_cons_succ])
              (refine wpSeq_mov rfl rfl ?_; intro o ho; simp only [List.getElem?_toArray, List.getElem?_cons_zero, List.getElem?_cons_succ, Option.some.injEq] at ho; subst ho; refine ⟨?_, Or.inl ⟨by rfl, fun W hSW => ?_⟩, ?_⟩; rotate_left; (focus (go_simp; first | done | with_reducible rfl)); try simp only [Act.put, List.setIfInBounds_toArray, List.set_cons_zero, List.set_cons_succ])
              (refine wpSeq_mov rfl rfl ?_; intro o ho; simp only [List.getElem?_toArray, List.getElem?_cons_zero, List.getElem?_cons_succ, Option.some.injEq] at ho; subst ho; refine ⟨?_, Or.inl ⟨by rfl, fun W hSW => ?_⟩, ?_⟩; rotate_left; (focus (go_simp; first | done | with_reducible rfl)); try simp only [Act.put, List.setIfInBounds_toArray, List.set_cons_zero, List.set_cons_succ])
              (refine wpSeq_mov rfl rfl ?_; intro o ho; simp only [List.getElem?_toArray, List.getElem?_cons_zero, List.getElem?_cons_succ, Option.some.injEq] at ho; subst ho; refine ⟨?_, Or.inl ⟨by rfl, fun W hSW => ?_⟩, ?_⟩; rotate_left; (focus (go_simp; first | done | with_reducible rfl)); try simp only [Act.put, List.setIfInBounds_toArray, List.set_cons_zero, List.set_cons_succ])
              refine wpSeq_done ?_
              clear hLc'
              go_wp2_with fail
              go_roundw
              case rel => exact ⟨j + 1, by omega, by go_num, addS seen (v : Int), out, A, cp, opn + 1, lv, un + 1, W2, rfl, rfl, by go_num, HLI2.out, HLM11.out, by omega⟩
              case measure => simp [intOf]; omega
            · have hLc' : ((L : Int) == (s.lims.length : Int)) = false := by simp; omega
              have hq : p < q := by
                rcases Nat.lt_or_ge p q with h1 | h1
                · exact h1
                · exact absurd (HPQ.out.1 h1) hLc
              have HLI2 := Lib.hid (HLI.out.low HI.out HQ.out HY.out (by rw [HV.out]; exact HSF.out) HP.out hq)
              rw [HV.out, ← HL.out] at HLI2
              clear hLc hq
              (refine wpSeq_mov rfl rfl ?_; intro o ho; simp only [List.getElem?_toArray, List.getElem?_cons_zero, List.getElem?_cons_succ, Option.some.injEq] at ho; subst ho; refine ⟨?_, Or.inl ⟨by rfl, fun W hSW => ?_⟩, ?_⟩; rotate_left; (focus (go_simp; first | done | with_reducible rfl)); try simp only [Act.put, List.setIfInBounds_toArray, List.set_cons_zero, List.set_cons_succ])
              (refine wpSeq_mov rfl rfl ?_; intro o ho; simp only [List.getElem?_toArray, List.getElem?_cons_zero, List.getElem?_cons_succ, Option.some.injEq] at ho; subst ho; refine ⟨?_, Or.inl ⟨by rfl, fun W hSW => ?_⟩, ?_⟩; rotate_left; (focus (go_simp; first | done | with_reducible rfl)); try simp only [Act.put, List.setIfInBounds_toArray, List.set_cons_zero, List.set_cons_succ])
              (refine wpSeq_mov rfl rfl ?_; intro o ho; simp only [List.getElem?_toArray, List.getElem?_cons_zero, List.getElem?_cons_succ, Option.some.injEq] at ho; subst ho; refine ⟨?_, Or.inl ⟨by rfl, fun W hSW => ?_⟩, ?_⟩; rotate_left; (focus (go_simp; first | done | with_reducible rfl)); try simp only [Act.put, List.setIfInBounds_toArray, List.set_cons_zero, List.set_cons_succ])
              (refine wpSeq_mov rfl rfl ?_; intro o ho; simp only [List.getElem?_toArray, List.getElem?_cons_zero, List.getElem?_cons_succ, Option.some.injEq] at ho; subst ho; refine ⟨?_, Or.inl ⟨by rfl, fun W hSW => ?_⟩, ?_⟩; rotate_left; (focus (go_simp; first | done | with_reducible rfl)); try simp only [Act.put, List.setIfInBounds_toArray, List.set_cons_zero, List.set_cons_succ])
              (refine wpSeq_mov rfl rfl ?_; intro o ho; simp only [List.getElem?_toArray, List.getElem?_cons_zero, List.getElem?_cons_succ, Option.some.injEq] at ho; subst ho; refine ⟨?_, Or.inl ⟨by rfl, fun W hSW => ?_⟩, ?_⟩; rotate_left; (focus (go_simp; first | done | with_reducible rfl)); try simp only [Act.put, List.setIfInBounds_toArray, List.set_cons_zero, List.set_cons_succ])
              (refine wpSeq_mov rfl rfl ?_; intro o ho; simp only [List.getElem?_toArray, List.getElem?_cons_zero, List.getElem?_cons_succ, Option.some.injEq] at ho; subst ho; refine ⟨?_, Or.inl ⟨by rfl, fun W hSW => ?_⟩, ?_⟩; rotate_left; (focus (go_simp; first | done | with_reducible rfl)); try simp only [Act.put, List.setIfInBounds_toArray, List.set_cons_zero, List.set_cons_succ])
              (refine wpSeq_mov rfl rfl ?_; intro o ho; simp only [List.getElem?_toArray, List.getElem?_cons_zero, List.getElem?_cons_succ, Option.some.injEq] at ho; subst ho; refine ⟨?_, Or.inl ⟨by rfl, fun W hSW => ?_⟩, ?_⟩; rotate_left; (focus (go_simp; first | done | with_reducible rfl)); try simp only [Act.put, List.setIfInBounds_toArray, List.set_cons_zero, List.set_cons_succ])
              (refine wpSeq_mov rfl rfl ?_; intro o ho; simp only [List.getElem?_toArray, List.getElem?_cons_zero, List.getElem?_cons_succ, Option.some.injEq] at ho; subst ho; refine ⟨?_, Or.inl ⟨by rfl, fun W hSW => ?_⟩, ?_⟩; rotate_left; (focus (go_simp; first | done | with_reducible rfl)); try simp only [Act.put, List.setIfInBounds_toArray, List.set_cons_zero, List.set_cons_succ])
              (refine wpSeq_mov rfl rfl ?_; intro o ho; simp only [List.getElem?_toArray, List.getElem?_cons_zero, List.getElem?_cons_succ, Option.some.injEq] at ho; subst ho; refine ⟨?_, Or.inl ⟨by rfl, fun W hSW => ?_⟩, ?_⟩; rotate_left; (focus (go_simp; first | done | with_reducible rfl)); try simp only [Act.put, List.setIfInBounds_toArray, List.set_cons_zero, List.set_cons_succ])
              (refine wpSeq_mov rfl rfl ?_; intro o ho; simp only [List.getElem?_toArray, List.getElem?_cons_zero, List.getElem?_cons_succ, Option.some.injEq] at ho; subst ho; refine ⟨?_, Or.inl ⟨by rfl, fun W hSW => ?_⟩, ?_⟩; rotate_left; (focus (go_simp; first | done | with_reducible rfl)); try simp only [Act.put, List.setIfInBounds_toArray, List.set_cons_zero, List.set_cons_succ])
              (refine wpSeq_mov rfl rfl ?_; intro o ho; simp only [List.getElem?_toArray, List.getElem?_cons_zero, List.getElem?_cons_succ, Option.some.injEq] at ho; subst ho; refine ⟨?_, Or.inl ⟨by rfl, fun W hSW => ?_⟩, ?_⟩; rotate_left; (focus (go_simp; first | done | with_reducible rfl)); try simp only [Act.put, List.setIfInBounds_toArray, List.set_cons_zero, List.set_cons_succ])
              (refine wpSeq_mov rfl rfl ?_; intro o ho; simp only [List.getElem?_toArray, List.getElem?_cons_zero, List.getElem?_cons_succ, Option.some.injEq] at ho; subst ho; refine ⟨?_, Or.inl ⟨by rfl, fun W hSW => ?_⟩, ?_⟩; rotate_left; (focus (go_simp; first | done | with_reducible rfl)); try simp only [Act.put, List.setIfInBounds_toArray, List.set_cons_zero, List.set_cons_succ])
              (refine wpSeq_mov rfl rfl ?_; intro o ho; simp only [List.getElem?_toArray, List.getElem?_cons_zero, List.getElem?_cons_succ, Option.some.injEq] at ho; subst ho; refine ⟨?_, Or.inl ⟨by rfl, fun W hSW => ?_⟩, ?_⟩; rotate_left; (focus (go_simp; first | done | with_reducible rfl)); try simp only [Act.put, List.setIfInBounds_toArray, List.set_cons_zero, List.set_cons_succ])
              refine wpSeq_done ?_
              clear hLc'
              have HLM12 := Lib.hid (HLM11.out.after (stepA w11 (.cells #[.int .i64 y] 3)))
              obtain ⟨i0, hi0, hz0, hz1, hz2⟩ := info_parts intInfo
              by_cases hmx : lv < L
              · skip
                go_wp2_with ((at_builtin; go_loud (refine wpList_append_own_at (o := ⟨some 85, _, _, _, _, _⟩) _ rfl (.tmp 82) (.tmp 84) _ rfl w.heap.size 3 i0 _ 1 8 Try.underlying25 hi0 hz0 hz1 hz2 rfl (by omega) (.slice A (out.length + 1) cp) (out.length + 1) (i64s (0 :: out)) rfl HLM12.out.row _ 1 1 [.int .i64 y] rfl rfl (cells_new w11 [.int .i64 y] 3) (i64s_one [y]) (by unfold maxLen; omega) (by omega) HLM12.out.fr.size ?_); intro v9 w12 ho9 hg9 _ hat9; go_loud (obtain ⟨A2, c2, rfl, hc2⟩ := own_form ho9); go_loud (have HLM13 := Lib.hid (HLM12.out.push (y := y) ho9 hg9 hat9)); go_loud (have d4 : w12.cell? ⟨b, 4, none⟩ = some (.slice (some ⟨G.lb, 0, none⟩) (n + 1) (n + 1)) := HLM13.out.m.sb.cell 4); go_loud (have d5 : w12.cell? ⟨G.lb, v, none⟩ = some (.int .i64 (L : Int)) := (by have h2 := HLM13.out.m.cell_lv hrel2 HP.out; rw [show ((-y).natAbs) = v by have := HV.out; omega, ← HL.out] at h2; exact h2)); clear ho9 hg9 hat9))
                clear d4 d5
                have hmaxE : max lv L = L := by omega
                rw [hmaxE] at HLI2
                clear hmaxE
                go_roundw
                case rel => exact ⟨j + 1, by omega, by go_num, addS seen (v : Int), out ++ [y], A2, c2, opn, L, un + 1, W2, (by simp), rfl, rfl, HLI2.out, HLM13.out, by simp; omega⟩
                case measure => simp [intOf]; omega
              · skip
                go_wp2_with ((at_builtin; go_loud (refine wpList_append_own_at (o := ⟨some 85, _, _, _, _, _⟩) _ rfl (.tmp 82) (.tmp 84) _ rfl w.heap.size 3 i0 _ 1 8 Try.underlying25 hi0 hz0 hz1 hz2 rfl (by omega) (.slice A (out.length + 1) cp) (out.length + 1) (i64s (0 :: out)) rfl HLM12.out.row _ 1 1 [.int .i64 y] rfl rfl (cells_new w11 [.int .i64 y] 3) (i64s_one [y]) (by unfold maxLen; omega) (by omega) HLM12.out.fr.size ?_); intro v9 w12 ho9 hg9 _ hat9; go_loud (obtain ⟨A2, c2, rfl, hc2⟩ := own_form ho9); go_loud (have HLM13 := Lib.hid (HLM12.out.push (y := y) ho9 hg9 hat9)); go_loud (have d4 : w12.cell? ⟨b, 4, none⟩ = some (.slice (some ⟨G.lb, 0, none⟩) (n + 1) (n + 1)) := HLM13.out.m.sb.cell 4); go_loud (have d5 : w12.cell? ⟨G.lb, v, none⟩ = some (.int .i64 (L : Int)) := (by have h2 := HLM13.out.m.cell_lv hrel2 HP.out; rw [show ((-y).natAbs) = v by have := HV.out; omega, ← HL.out] at h2; exact h2)); clear ho9 hg9 hat9))
                clear d4 d5
                have hmaxE : max lv L = lv := by omega
                rw [hmaxE] at HLI2
                clear hmaxE
                go_roundw
                case rel => exact ⟨j + 1, by omega, by go_num, addS seen (v : Int), out ++ [y], A2, c2, opn, lv, un + 1, W2, (by simp), rfl, rfl, HLI2.out, HLM13.out, by simp; omega⟩
                case measure => simp [intOf]; omega
      · have hlt' : ¬ (j : Int) < (c.length : Int) := by omega
        have hjE : j = c.length := by omega
        subst hjE
        have hop := HLI.out.opened HI.out HQ.out
        have hex : ∃ p, p < a ∧ q ≤ p ∧ seenAt s.lits seen p = true := cnt_pos a (by rw [← HLI.out.cnt]; exact hop)
        have HEX := Lib.hid hex
        have ha0 : 0 < a := by
          obtain ⟨p, hp, _⟩ := hex
          omega
        have hwa : IntKind.i64.wrap ((a : Int) - 1) = (a : Int) - 1 := IntWalk.i64_in _ (by omega)
        have hopn : opn ≤ 1000000 := by omega
        clear hex
        go_wp2_with fail
        go_loopw [8] (fun av wr => ∃ a1 : Nat, av = .int .i64 (a1 : Int) ∧ a1 < a ∧ LrnM w wr base b n s G o sm un seen out A cp W ∧ (∀ p, a1 < p → p < a → seenAt s.lits seen p = false)) (fun av _ => (intOf av).toNat)
        case atStart => exact ⟨a - 1, by go_num, by omega, HLM.out, fun p h1 h2 => by omega⟩
        case round =>
          obtain ⟨a1, rfl, ha1, hlm, hns⟩ := hrel
          have HLM1 := Lib.hid hlm
          have HNS := Lib.hid hns
          clear hlm hns
          obtain ⟨t, ht⟩ : ∃ t, s.lits[a1]? = some t := ⟨_, List.getElem?_eq_getElem (by rw [HI.out.lits_len]; omega)⟩
          have htr := HI.out.trng t (List.mem_of_getElem? ht)
          have hct : wr.cell? ⟨qt, a1, none⟩ = some (.int .i64 t) := by
            obtain ⟨q', p', e, _, hc⟩ := Vals.of_own HLM1.out.m.tr a1 (.int .i64 t) (i64s_at ht)
            rw [show ({ G with WV := W } : SG).T = G.T from rfl, HET.out] at e
            cases e
            rw [Nat.zero_add] at hc
            exact hc
          have c8 : wr.cell? ⟨b, 8, none⟩ = some (.slice (some ⟨qt, 0, none⟩) s.tr.length G.ct) := (HLM1.out.m.sb.cell 8).trans (by show some (Value.slice G.T _ _) = _; rw [HET.out])
          have hat : (a1 : Int) < (s.tr.length : Int) := by omega
          have HT := Lib.hid ht
          have HAB := Lib.hid (abs_any t wr (by omega))
          obtain ⟨v, hv⟩ : ∃ v : Nat, t.natAbs = v := ⟨_, rfl⟩
          rw [hv] at HAB
          have HV := Lib.hid hv
          have hlk := HLM1.out.look (v := (v : Int)) (by omega)
          have HSA := Lib.hid (seenAt_of (seen := seen) ht)
          clear ht hv
          go_wp2_with fail
          refine HAB.out.mono ?_
          rintro e w1 ⟨rfl, hw⟩
          have hw' := hw.symm
          subst hw'
          clear hw HAB
          by_cases hs : seen (v : Int) = true
          · rw [hs] at hlk
            have HSN := Lib.hid hs
            have HLM2 := Lib.hid (HLM1.out.after (stepA wr (.cells #[] 62)))
            have c8' : (wr.alloc (.cells #[] 62)).cell? ⟨b, 8, none⟩ = some (.slice (some ⟨qt, 0, none⟩) s.tr.length G.ct) := (HLM2.out.m.sb.cell 8).trans (by show some (Value.slice G.T _ _) = _; rw [HET.out])
            have hct' : (wr.alloc (.cells #[] 62)).cell? ⟨qt, a1, none⟩ = some (.int .i64 t) := by
              obtain ⟨q', p', e, _, hc⟩ := Vals.of_own HLM2.out.m.tr a1 (.int .i64 t) (i64s_at HT.out)
              rw [show ({ G with WV := W } : SG).T = G.T from rfl, HET.out] at e
              cases e
              rw [Nat.zero_add] at hc
              exact hc
            clear hs c8 hct
            have HSL : Hid (seen (t.natAbs : Int) = true) := Lib.hid (by rw [HV.out]; exact HSN.out)
            by_cases ho : opn - 1 = 0
            · have hop' : ((opn : Int) - 1 == 0) = true := by simp; omega
              have hwo : IntKind.i64.wrap ((opn : Int) - 1) = (opn : Int) - 1 := IntWalk.i64_in _ (by omega)
              have hwt : IntKind.i64.wrap (-t) = -t := IntWalk.i64_in _ (by omega)
              obtain ⟨p0, hL⟩ := HLI.out.learnt HI.out HQ.out ha1 HT.out HSL.out HNS.out ho
              have HL := Lib.hid hL
              obtain ⟨g, rfl, hg0, hgf, ⟨u0, _, hgc⟩, hgr⟩ := own_put HLM2.out.row (K := 0) (by omega)
              have hgf0 := hgf 0
              have HGR := Lib.hid (hgr (.int .i64 (-t)))
              clear hL hgf hgr ho
              go_wp2_with fail
              go_ret2
              have hfin : (i64s (0 :: out)).set 0 (.int .i64 (-t)) = i64s (-t :: out) := rfl
              refine ⟨t, out, lv, p0, _, cp, W, rfl, HL.out, HLM2.out.m.keep (set_size _ _ _) fun k l e => Below.heap_setCell _ ⟨g, 0, none⟩ _ k ?_, by rw [← hfin]; exact HGR.out, HLM2.out.fr.set _ (.inl hg0), hol, HLM2.out.ol⟩
              have := HLM2.out.ol k l e
              show k ≠ g
              omega
            · have hop' : ((opn : Int) - 1 == 0) = false := by simp; omega
              have hwo : IntKind.i64.wrap ((opn : Int) - 1) = (opn : Int) - 1 := IntWalk.i64_in _ (by omega)
              obtain ⟨k', c', htk, hck', hli'⟩ := HLI.out.next HI.out HQ.out ha1 HT.out HSL.out HNS.out ho
              have HLN := Lib.hid (And.intro hck' hli')
              have hrv := HR.out.rv a1 t (k' : Int) htk
              rw [HV.out] at hrv
              have HRV := Lib.hid hrv
              clear htk hck' hli' hrv ho
              go_wp2_with fail
              clear c8' hct'
              generalize wr.alloc (.cells #[] 62) = w2 at HLM2 ⊢
              have hvn : (v : Int) < (n : Int) + 1 := by have := HV.out; omega
              have HAB := Lib.hid (fun W => abs_any t W (by omega))
              rw [HV.out] at HAB
              refine wp_region_noPanic ?_
              refine wp_region_seq (fun Wd => Wd.cell? ⟨b, 5, none⟩ = some (.slice (some ⟨G.rb, 0, none⟩) (n + 1) (n + 1)) ∧ Wd.cell? ⟨G.rb, v, none⟩ = some (.int .i64 (k' : Int))) [0, 4, 1, 2, 3, 5, 6, 7, 8] [0, 1, 2, 3, 4, 6, 7, 8] [] (by kernel_rfl) (by kernel_rfl) rfl (by kernel_rfl) (by kernel_rfl) (fun _ _ _ _ _ h => h) ?_ (fun hSS => ?_)
              · exact ⟨HLM2.out.m.sb.cell 5, HLM2.out.m.r.cell HRV.out⟩
              clear hSS
              have HLM3 := Lib.hid (HLM2.out.after (stepD1 w2))
              clear HLM2
              generalize w2.drew = w3 at HLM3 ⊢
              (refine wpSeq_mov rfl rfl ?_; intro o ho; simp only [List.getElem?_toArray, List.getElem?_cons_zero, List.getElem?_cons_succ, Option.some.injEq] at ho; subst ho; refine ⟨?_, Or.inl ⟨by rfl, fun W hSW => ?_⟩, ?_⟩; rotate_left; (focus (go_simp; first | done | with_reducible rfl)); try simp only [Act.put, List.setIfInBounds_toArray, List.set_cons_zero, List.set_cons_succ])
              (refine wpSeq_mov rfl rfl ?_; intro o ho; simp only [List.getElem?_toArray, List.getElem?_cons_zero, List.getElem?_cons_succ, Option.some.injEq] at ho; subst ho; refine ⟨?_, Or.inl ⟨by rfl, fun W hSW => ?_⟩, ?_⟩; rotate_left; (focus (go_simp; first | done | with_reducible rfl)); try simp only [Act.put, List.setIfInBounds_toArray, List.set_cons_zero, List.set_cons_succ])
              (refine wpSeq_mov rfl rfl ?_; intro o ho; simp only [List.getElem?_toArray, List.getElem?_cons_zero, List.getElem?_cons_succ, Option.some.injEq] at ho; subst ho; refine ⟨?_, Or.inl ⟨by rfl, fun W hSW => ?_⟩, ?_⟩; rotate_left; (focus (go_simp; first | done | with_reducible rfl)); try simp only [Act.put, List.setIfInBounds_toArray, List.set_cons_zero, List.set_cons_succ])
              (refine wpSeq_mov rfl rfl ?_; intro o ho; simp only [List.getElem?_toArray, List.getElem?_cons_zero, List.getElem?_cons_succ, Option.some.injEq] at ho; subst ho; refine ⟨?_, Or.inl ⟨by rfl, fun W hSW => ?_⟩, ?_⟩; rotate_left; (focus (go_simp; first | done | with_reducible rfl)); try simp only [Act.put, List.setIfInBounds_toArray, List.set_cons_zero, List.set_cons_succ])
              (refine wpSeq_mov rfl rfl ?_; intro o ho; simp only [List.getElem?_toArray, List.getElem?_cons_zero, List.getElem?_cons_succ, Option.some.injEq] at ho; subst ho; refine ⟨?_, Or.inl ⟨by rfl, fun W hSW => ?_⟩, ?_⟩; rotate_left; (focus (go_simp; first | done | with_reducible rfl)); try simp only [Act.put, List.setIfInBounds_toArray, List.set_cons_zero, List.set_cons_succ])
              (refine wpSeq_fix rfl rfl ?_; intro o ho; simp only [List.getElem?_toArray, List.getElem?_cons_zero, List.getElem?_cons_succ, Option.some.injEq] at ho; subst ho; intro K hK)
              go_simp
              refine (HAB.out w3).mono ?_
              rintro e w4 ⟨rfl, hw⟩
              have hw' := hw.symm
              subst hw'
              clear hw HAB
              (refine hK.out _ _ (fun _ => ⟨HLM3.out.m.sb.cell 5, HLM3.out.m.r.cell HRV.out⟩) ?_; clear hK K; try simp only [Act.put, List.setIfInBounds_toArray, List.set_cons_zero, List.set_cons_succ])
              (refine wpSeq_mov rfl rfl ?_; intro o ho; simp only [List.getElem?_toArray, List.getElem?_cons_zero, List.getElem?_cons_succ, Option.some.injEq] at ho; subst ho; refine ⟨?_, Or.inl ⟨by rfl, fun W hSW => ?_⟩, ?_⟩; rotate_left; (focus (go_simp; first | done | with_reducible rfl)); try simp only [Act.put, List.setIfInBounds_toArray, List.set_cons_zero, List.set_cons_succ])
              (refine wpSeq_mov rfl rfl ?_; intro o ho; simp only [List.getElem?_toArray, List.getElem?_cons_zero, List.getElem?_cons_succ, Option.some.injEq] at ho; subst ho; refine ⟨?_, Or.inl ⟨by rfl, fun W hSW => ?_⟩, ?_⟩; rotate_left; (focus (go_simp; first | done | with_reducible rfl)); try simp only [Act.put, List.setIfInBounds_toArray, List.set_cons_zero, List.set_cons_succ])
              (refine wpSeq_mov rfl rfl ?_; intro o ho; simp only [List.getElem?_toArray, List.getElem?_cons_zero, List.getElem?_cons_succ, Option.some.injEq] at ho; subst ho; refine ⟨?_, Or.inl ⟨by rfl, fun W hSW => ?_⟩, ?_⟩; rotate_left; (focus (go_simp; first | done | with_reducible rfl)); try simp only [Act.put, List.setIfInBounds_toArray, List.set_cons_zero, List.set_cons_succ])
              refine wpSeq_done ?_
              go_wp2_with fail
              go_roundw
              case rel => exact ⟨k', c', a1, t, rfl, rfl, rfl, HLN.out.1, seen, out, A, cp, opn - 1, lv, un, W, rfl, rfl, by go_num, HLN.out.2, HLM3.out, by omega⟩
              case measure => simp [intOf]; omega
          · have hs' : seen (v : Int) = false := by simpa using hs
            rw [hs'] at hlk
            have HSF := Lib.hid hs'
            clear hs hs' c8 hct
            have ha1p : 0 < a1 := by
              obtain ⟨p, h1, h2, h3⟩ := HEX.out
              rcases Nat.lt_trichotomy p a1 with h4 | h4 | h4
              · omega
              · subst h4
                rw [HSA.out, HV.out, HSF.out] at h3
                cases h3
              · rw [HNS.out p h4 h1] at h3
                cases h3
            have hwa1 : IntKind.i64.wrap ((a1 : Int) - 1) = (a1 : Int) - 1 := IntWalk.i64_in _ (by omega)
            go_wp2_with fail
            go_roundw
            case rel =>
              refine ⟨a1 - 1, by go_num, by omega, HLM1.out.after (stepA _ _), fun p h1 h2 => ?_⟩
              by_cases e : p = a1
              · rw [e, HSA.out, HV.out]
                exact HSF.out
              · exact HNS.out p (by omega) h2
            case measure => simp [intOf]; omega
end Go.Proofs.Ytbkmgblijncjhaa

set_option linter.unusedVariables false
set_option linter.unusedSimpArgs false
namespace Go.Proofs.Ytbkmgblijncjhaa
open Go.RowKit Go.Maps

set_option maxRecDepth 100000 in
set_option maxHeartbeats 2000000 in
theorem atomAdd_any (w : World) (b i : Nat) (x y : Int) (hc : w.cell? ⟨b, i, none⟩ = some (.int .i64 x)) (hz : w.frozen? ⟨b, i, none⟩ = false) : Calls Try.prog 54 #[.pointer (some ⟨b, i, none⟩), .int .i64 y] w (fun e w' => e = .returned (.int .i64 (wrap64 (x + y))) ∧ w' = w.setCell ⟨b, i, none⟩ (.int .i64 (wrap64 (x + y)))) := by
  have hadd := run_call_add (P := Try.prog) Try.func67 (by kernel_rfl) (by kernel_rfl) (by kernel_rfl) .i64 (by kernel_rfl) (y := y) (s := wrap64 (x + y)) hc hz (by simp [go_sem, wrap64, IntKind.wrap_i64])
  go_enter Try.func54, Try.ntmps54
  go_wp2_with fail
  go_ret
  exact ⟨rfl, rfl⟩
end Go.Proofs.Ytbkmgblijncjhaa

set_option linter.unusedVariables false
set_option linter.unusedSimpArgs false
namespace Go.Proofs.Ytbkmgblijncjhaa
open Go.RowKit Go.Maps

/-! ### How far it has come, read off the memory -/
def trOf (w : World) (b : Nat) : Nat := match w.cell? ⟨b, 8, none⟩ with
  | some (.slice _ m _) => m
  | _ => 0
def limsOf (w : World) (b : Nat) : List Nat := match w.cell? ⟨b, 10, none⟩ with
  | some (.slice (some a) m _) => (List.range m).map fun i => match w.cell? ⟨a.block, i, none⟩ with
    | some v => (intOf v).toNat
    | none => 0
  | _ => []
def muW (n : Nat) (w : World) (b : Nat) : Nat := (2 ^ n - phiL n ((List.range (trOf w b)).map fun i => decide (i ∉ limsOf w b))) * (n + 1) + (n - trOf w b)
section
variable {w w' wr : World} {base b n : Nat} {F : List (List Int)} {A : List Int} {s s' s2 : SS} {G G' G2 : SG} {o o' o2 : Owns}
theorem SMem.mu (h : SMem w base b n s G o) : muW n w b = s.mu n := by
  have e1 : trOf w b = s.tr.length := by
    unfold trOf
    rw [show w.cell? ⟨b, 8, none⟩ = some (.slice G.T s.tr.length G.ct) from h.sb.cell 8]
  have e2 : limsOf w b = s.lims := by
    unfold limsOf
    rw [show w.cell? ⟨b, 10, none⟩ = some (.slice G.L s.lims.length G.cl) from h.sb.cell 10]
    by_cases h0 : s.lims = []
    · rw [h0]
      cases G.L <;> rfl
    · obtain ⟨q, eL, _⟩ := own_some h.lm (List.length_pos_iff.2 h0)
      rw [eL]
      apply List.ext_getElem?
      intro i
      by_cases hi : i < s.lims.length
      · obtain ⟨q', p', e, _, hc⟩ := Vals.of_own h.lm i (.int .i64 ((s.lims[i] : Nat) : Int)) (by unfold natV; rw [List.getElem?_map, List.getElem?_eq_getElem hi]; rfl)
        rw [eL] at e
        cases e
        rw [Nat.zero_add] at hc
        simp [hi, hc, intOf]
      · rw [List.getElem?_eq_none (by simp; omega), List.getElem?_eq_none (by omega)]
  unfold muW SS.mu SS.phi SS.marks
  rw [e1, e2]

/-- What stands while the solver runs. -/
structure RunSt (w wr : World) (base b n : Nat) (F : List (List Int)) (A : List Int) (s : SS) (G : SG) (o : Owns) (s' : SS) (G' : SG) (o' : Owns) : Prop where
  m : SMem wr base b n s' G' o'
  r : SRel n s' G'
  i : Inv n F s'
  wa : Wat s'
  g : GInv A s'
  dead : G'.dead = false
  cls : s.cls <+: s'.cls
  cn : s'.cls.length ≤ s.cls.length + s'.phi n
  un : G'.un ≤ G.un + s'.phi n * (n + 1)
  olds : Olds w o o'
  fr : SFr o w wr
  w2 : W2 s'
  wl : WL s'
  my : Many n A s.cls s'
  un2 : G'.un ≤ G.un + (s'.cls.length - s.cls.length) * (n + 1)
theorem RunSt.start (h : SMem w base b n s G o) (hr : SRel n s G) (hi : Inv n F s) (hw : Wat s) (hg : GInv A s) (hd : G.dead = false) (hw2 : W2 s) (hwl : WL s) : RunSt w w base b n F A s G o s G o :=
  ⟨h, hr, hi, hw, hg, hd, List.prefix_rfl, by omega, by omega, Olds.refl _ _, SFr.refl _ _, hw2, hwl, Many.start n A s, by omega⟩
theorem RunSt.after (h : RunSt w wr base b n F A s G o s' G' o') (hb : Below wr.heap.size wr w') : RunSt w w' base b n F A s G o s' G' o' :=
  { h with m := h.m.after hb, fr := h.fr.trans (SFr.of_below hb o') h.olds }
theorem RunSt.follow (h : RunSt w wr base b n F A s G o s' G' o') (hf : FolSt wr w' base b n F A s' G' o' s2 G2 o2) : RunSt w w' base b n F A s G o s2 G2 o2 := by
  refine ⟨hf.m, hf.r, hf.i, hf.wa, hf.g, hf.dead.trans h.dead, by rw [hf.cls]; exact h.cls, ?_, ?_, h.olds.trans h.fr.size hf.olds, h.fr.trans hf.fr h.olds, hf.w2 h.w2, hf.wl h.wl, h.my.same hf.cls hf.l0, by rw [hf.cls, hf.un]; exact h.un2⟩
  · rw [hf.cls]
    have := h.cn
    have := hf.phi
    omega
  · rw [hf.un]
    have h1 := h.un
    have h2 : s'.phi n * (n + 1) ≤ s2.phi n * (n + 1) := Nat.mul_le_mul_right _ hf.phi
    omega
theorem RunSt.wrong (h : RunSt w wr base b n F A s G o s' G' o') (d : Int) : RunSt w (wr.setCell ⟨b, 11, none⟩ (.int .i64 d)) base b n F A s G o s' { G' with wrong := d } o' :=
  ⟨h.m.set_wrong d, ⟨h.r.vv, h.r.lv, h.r.rv, h.r.ui⟩, h.i, h.wa, h.g, h.dead, h.cls, h.cn, h.un, h.olds, h.fr.trans ((SFr.refl o' wr).set (i := 11) _ (.inr (by rw [h.m.so]; simp))) h.olds, h.w2, h.wl, h.my, h.un2⟩
theorem RunSt.guess (h : RunSt w wr base b n F A s G o s' G' o') (hd : s'.done = s'.tr.length) {x : Int} (hg : Guessed wr w' base b n s' G' o' x G2 o2) (hx : x ∈ A ∨ ∀ a ∈ A, a ∈ s'.lits) : RunSt w w' base b n F A s G o (s'.guess x) G2 o2 ∧ (s'.guess x).mu n < s'.mu n := by
  have hi2 := h.i.guess hd hg.x0 hg.xn hg.u1 hg.u2
  have hl : s'.tr.length < n := by
    have := hi2.len
    simp [SS.guess] at this
    omega
  have hp := h.i.phi_guess (x := x) hl
  refine ⟨⟨hg.m, hg.r, hi2, h.i.wat_guess h.wa x, h.i.guess_g h.g hx, hg.dead.1.trans h.dead, h.cls, ?_, ?_, h.olds.trans h.fr.size hg.olds, h.fr.trans hg.fr h.olds, h.i.w2_guess h.w2 x, h.i.wl_guess h.wl h.w2 hd x, h.my.same rfl (lvl0_guess _ _), by rw [hg.dead.2]; exact h.un2⟩, h.i.mu_guess hl⟩
  · rw [hp]
    exact h.cn
  · rw [hp, hg.dead.2]
    exact h.un
theorem RunSt.learn (h : RunSt w wr base b n F A s G o s' G' o') (hAr : ∀ a ∈ A, a ≠ 0 ∧ a.natAbs ≤ n) {x : Int} {out : List Int} {lv p : Nat} (hl : Learnt n F s' x out lv p) (hm : SMem w' base b n (s'.learn x out lv p) G2 o2) (hr : SRel n (s'.learn x out lv p) G2) (hd : G2.dead = false) (hu : G2.un ≤ G'.un + (n + 1)) (ho : Olds wr o' o2) (hf : SFr o' wr w') :
    RunSt w w' base b n F A s G o (s'.learn x out lv p) G2 o2 ∧ (s'.learn x out lv p).mu n < s'.mu n := by
  have hp := h.i.learn_phi hl
  refine ⟨⟨hm, hr, h.i.learn hl, h.i.learn_w h.wa hl, h.i.learn_g h.g hl, hd, h.cls.trans (List.prefix_append _ _), ?_, ?_, h.olds.trans h.fr.size ho, h.fr.trans hf h.olds, h.i.w2_learn h.wl hl, h.i.wl_learn h.wl hl, h.i.many_learn h.wl hAr h.g h.my hl, ?_⟩, mu_of hp (phi_lt _)⟩
  · have e : (s'.learn x out lv p).cls.length = s'.cls.length + 1 := by
      show (s'.cls ++ [_]).length = _
      simp
    have := h.cn
    omega
  · have h1 := h.un
    have h2 : (s'.phi n + 1) * (n + 1) ≤ (s'.learn x out lv p).phi n * (n + 1) := Nat.mul_le_mul_right _ hp
    rw [Nat.add_mul, Nat.one_mul] at h2
    omega
  · have e : (s'.learn x out lv p).cls.length = s'.cls.length + 1 := by
      show (s'.cls ++ [_]).length = _
      simp
    have h1 := h.un2
    have h2 := h.cls.length_le
    rw [e, show s'.cls.length + 1 - s.cls.length = (s'.cls.length - s.cls.length) + 1 by omega, Nat.add_mul, Nat.one_mul]
    omega
/-- A row that is not the solver's. -/
theorem vals_fr {B : Option Addr} {xs : List Value} (hA : Vals w w.heap.size B xs) (ho : xs ≠ [] → ∀ k p, B = some ⟨k, p, none⟩ → o k = none) (hf : SFr o w w') : Vals w' w'.heap.size B xs := fun i u hu => by
  obtain ⟨k, p, e, h1, h2⟩ := hA i u hu
  refine ⟨k, p, e, Nat.lt_of_lt_of_le h1 hf.size, ?_⟩
  rw [← h2]
  simp only [World.cell?, hf.block k h1 (ho (fun e2 => by rw [e2] at hu; cases hu) k p e)]
/-- A model as a list. -/
def mL (L : List Bool) (v : Nat) : Bool := L.getD (v - 1) false
theorem mL_model {x : Int} (h0 : x ≠ 0) (hx : x.natAbs ≤ n) : litOn (mL (modelL n s)) x = litOn (modelOf s) x := by
  have e : mL (modelL n s) x.natAbs = modelOf s x.natAbs := by
    unfold mL modelL
    rw [List.getD_eq_getElem?_getD, List.getElem?_map, List.getElem?_range (by omega)]
    show modelOf s (x.natAbs - 1 + 1) = _
    rw [show x.natAbs - 1 + 1 = x.natAbs by omega]
  unfold litOn
  rw [e]
/-- What run tells. -/
def RunPost (w : World) (n : Nat) (F : List (List Int)) (s : SS) (o : Owns) (l : List Int) (e : Ending) (w' : World) : Prop :=
  (e = .returned (.tuple #[.slice none 0 0, .bool false, .int .i64 0]) ∧ (∀ m, SatF m F → (∀ a ∈ l, litOn m a = true) → False) ∧ SFr o w w') ∨
  (∃ (g : Nat) (L : List Bool), e = .returned (.tuple #[.slice (some ⟨g, 0, none⟩) n n, .bool true, .int .i64 0]) ∧ w.heap.size ≤ g ∧ Blk w' g 4 (boolV L).toArray ∧ L.length = n ∧ SatF (mL L) s.cls ∧ (∀ a ∈ l, litOn (mL L) a = true) ∧ SFr o w w')

set_option maxRecDepth 100000 in
set_option maxHeartbeats 8000000 in
theorem run_gen (h : SMem w base b n s G o) (hr : SRel n s G) (hi : Inv n F s) {l : List Int} (hg : GInv l s) (hdead : G.dead = true → ∀ m, ¬ SatF m F) (hwat : G.dead = false → Wat s) (hw2 : G.dead = false → W2 s) (hlims : s.lims = []) (hn : n ≤ 900000) {B : Option Addr} {c : Nat} (hA : Vals w w.heap.size B (i64s l)) (hAo : l ≠ [] → ∀ k p, B = some ⟨k, p, none⟩ → o k = none) (hll : l.length ≤ 140737488355328) (hc : l.length ≤ c) (hl : ∀ x ∈ l, x ≠ 0 ∧ x.natAbs ≤ n)
    (M : Nat) (hbd : ∀ s' : SS, Inv n F s' → Many n l s.cls s' → s'.cls.length ≤ s.cls.length + s'.phi n → s'.cls.length ≤ s.cls.length + M) (hb1 : s.cls.length + M ≤ 3999999999999) (hb2 : G.un + M * (n + 1) ≤ 8000000000000000000) :
    Calls Try.prog 27 #[.pointer (some ⟨b, 0, none⟩), .slice B l.length c, .int .i64 0] w (RunPost w n F s o l) := by
  have HD := Lib.hid hdead
  have HL := Lib.hid hl
  have HB2 := Lib.hid hb2
  have HBD := Lib.hid hbd
  have HA := Lib.hid hA
  have HAO := Lib.hid hAo
  by_cases hdd : G.dead = true
  · have c12 : w.cell? ⟨b, 12, none⟩ = some (.bool true) := (h.sb.cell 12).trans (by rw [← hdd]; rfl)
    have HNM := Lib.hid (HD.out hdd)
    clear h hr hi hg hdead hwat hw2 hlims hA hAo hl hb2 hbd hdd
    go_enter Try.func27, Try.ntmps27
    go_wp2_with fail
    go_loopw [] (fun wr => wr = w) (fun _ => 0)
    case atStart => rfl
    case round =>
      subst hrel
      go_wp2_with fail
      refine bodyPost_ret (v := .tuple #[.slice none 0 0, .bool false, .int .i64 0]) (by simp [results, Try.results27, go_sem]) rfl (.inl ⟨rfl, fun m hm _ => HNM.out m hm, SFr.refl _ _⟩)
  · have hdd' : G.dead = false := by simpa using hdd
    have HST := Lib.hid (RunSt.start h hr hi (hwat hdd') hg hdd' (hw2 hdd') (fun l hl => by rw [hlims] at hl; cases hl))
    clear h hr hi hg hdead hwat hw2 hlims hA hAo hl hb2 hbd hdd hdd'
    go_enter Try.func27, Try.ntmps27
    go_wp2_with fail
    go_loopw [] (fun wr => ∃ (s' : SS) (G' : SG) (o' : Owns), RunSt w wr base b n F l s G o s' G' o') (fun wr => muW n wr b)
    case atStart => exact ⟨s, G, o, HST.out⟩
    case round =>
      obtain ⟨s1, G1, o1, hst⟩ := hrel
      have HR1 := Lib.hid hst
      clear hst HST
      have c12 : wr.cell? ⟨b, 12, none⟩ = some (.bool false) := (HR1.out.m.sb.cell 12).trans (by rw [← HR1.out.dead]; rfl)
      have hcl1 : s1.cls.length ≤ 4000000000000 := by
        have := HBD.out s1 HR1.out.i HR1.out.my HR1.out.cn
        omega
      have HMU := Lib.hid HR1.out.m.mu
      have HFOL := Lib.hid (follow_any HR1.out.m HR1.out.r HR1.out.i HR1.out.wa HR1.out.g (by omega) (by omega))
      go_wp2_with fail
      refine HFOL.out.mono ?_
      rintro e w2 ⟨r, s2, G2, o2, rfl, hfo, hcase⟩
      have HR2 := Lib.hid (HR1.out.follow hfo)
      have HMU2 := Lib.hid hfo.mu
      clear hfo HFOL HR1 c12
      rcases hcase with ⟨hr1, hdn⟩ | ⟨k, cc, hr1, hck, hfk⟩
      · subst hr1
        have HDN := Lib.hid hdn
        clear hdn
        have HTU := Lib.hid (turn_any HR2.out.m HR2.out.r HR2.out.i (by omega) (vals_fr HA.out (fun h => HAO.out fun e => h (by rw [e]; rfl)) HR2.out.fr) hll hc HL.out)
        go_wp2_with fail
        refine HTU.out.mono ?_
        rintro e w3 (⟨rfl, hb, hx⟩ | ⟨rfl, hb, hx, htold⟩ | ⟨rfl, x, G3, o3, hx, hgu⟩)
        · have HX := Lib.hid hx
          have HR3 := Lib.hid (HR2.out.after hb)
          clear hb hx HTU
          go_wp2_with fail
          refine bodyPost_ret (v := .tuple #[.slice none 0 0, .bool false, .int .i64 0]) (by simp [results, Try.results27, go_sem]) rfl (.inl ⟨rfl, fun m hm ha => ?_, HR3.out.fr⟩)
          obtain ⟨a, ha1, ha2⟩ := HX.out
          exact HR2.out.i.no_assumed HR2.out.g ha1 ha2 m hm ha
        · have HX := Lib.hid hx
          have HT := Lib.hid htold
          have HR3 := Lib.hid (HR2.out.after hb)
          have HMO := Lib.hid (model_any HR3.out.m HR3.out.r (by omega))
          clear hb hx htold HTU
          go_wp2_with fail
          refine HMO.out.mono ?_
          rintro e w4 ⟨g, rfl, hg1, hb, hX⟩
          have HR4 := Lib.hid (HR3.out.after hb)
          have HXB := Lib.hid (And.intro hg1 hX)
          clear hb hg1 hX HMO
          go_wp2_with fail
          refine bodyPost_ret (v := .tuple #[.slice (some ⟨g, 0, none⟩) n n, .bool true, .int .i64 0]) (by simp [results, Try.results27, go_sem]) rfl (.inr ⟨g, modelL n s2, rfl, Nat.le_trans HR3.out.fr.size HXB.out.1, HXB.out.2, by simp [modelL], fun d hd => ?_, fun a ha => ?_, HR4.out.fr⟩)
          · have hd2 := HR2.out.cls.subset hd
            obtain ⟨y, hy, hon⟩ := HR2.out.i.is_model HR2.out.wa HDN.out (fun v h1 h2 => HT.out v h1 h2) d hd2
            have hyr := HR2.out.i.rng d hd2 y hy
            exact ⟨y, hy, by rw [mL_model hyr.1 hyr.2]; exact hon⟩
          · rw [mL_model (HL.out a ha).1 (HL.out a ha).2]
            exact HR2.out.i.on_of_mem (HX.out a ha)
        · have HG := Lib.hid (HR2.out.guess HDN.out hgu hx)
          clear hgu hx HTU
          go_wp2_with fail
          go_roundw
          case rel => exact ⟨_, G3, o3, HG.out.1⟩
          case measure =>
            rw [HG.out.1.m.mu, HMU.out]
            have := HMU2.out
            have := HG.out.2
            omega
      · subst hr1
        have hk0 : (0 : Int) ≤ (k : Int) := by omega
        have HCK := Lib.hid hck
        have HFK := Lib.hid hfk
        have c11 := HR2.out.m.sb.cell 11
        have HAT := Lib.hid (atomAdd_any w2 b 11 G2.wrong 1 c11 (HR2.out.m.sb.frozen 11))
        clear hck hfk c11
        go_wp2_with fail
        refine HAT.out.mono ?_
        rintro e w3 ⟨rfl, hw3⟩
        have HR3 := Lib.hid (HR2.out.wrong (wrap64 (G2.wrong + 1)))
        rw [← hw3] at HR3
        clear hw3 HAT HR2
        have c10 : w3.cell? ⟨b, 10, none⟩ = some (.slice G2.L s2.lims.length G2.cl) := HR3.out.m.sb.cell 10
        by_cases hl0 : s2.lims = []
        · have hl0' : ((s2.lims.length : Int) == 0) = true := by simp [hl0]
          have HL0 := Lib.hid hl0
          clear hl0
          go_wp2_with fail
          refine bodyPost_ret (v := .tuple #[.slice none 0 0, .bool false, .int .i64 0]) (by simp [results, Try.results27, go_sem]) rfl (.inl ⟨rfl, fun m hm _ => ?_, HR3.out.fr⟩)
          exact HR3.out.i.no_model HL0.out (List.mem_of_getElem? HCK.out) HFK.out m hm
        · have hlp : 0 < s2.lims.length := List.length_pos_iff.2 hl0
          have hl0' : ((s2.lims.length : Int) == 0) = false := by simp; omega
          have HLE := Lib.hid (learn_any HR3.out.m HR3.out.r HR3.out.i HR3.out.wa (by omega) hl0 HCK.out HFK.out)
          clear hl0
          go_wp2_with fail
          clear c10 hl0'
          refine HLE.out.mono ?_
          rintro e w4 ⟨x, out, lv, p, A2, c2, W, rfl, hL, hm4, hrow, hf4, hol, holt⟩
          have HLN := Lib.hid hL
          have HM4 := Lib.hid hm4
          have HRW := Lib.hid hrow
          have HF4 := Lib.hid hf4
          have HOT := Lib.hid holt
          have hr4 : SRel n s2 { { G2 with wrong := wrap64 (G2.wrong + 1) } with WV := W } := ⟨HR3.out.r.vv, HR3.out.r.lv, HR3.out.r.rv, HR3.out.r.ui⟩
          have HBA := Lib.hid (back_any hm4 hr4 HR3.out.i (by omega) hL.lim)
          clear hL hm4 hrow hf4 holt hr4 HLE
          go_wp2_with fail
          refine HBA.out.mono ?_
          rintro e w5 ⟨rfl, G5, hm5, hr5, hund5, hU5, hd5, hf5⟩
          obtain ⟨g, rfl, hgc⟩ := own_some HRW.out (by omega)
          have hg3 := HRW.out.lt g rfl
          have hgo : o2 g = none := by
            cases e : o2 g with
            | none => rfl
            | some lb =>
              have := HOT.out g lb e
              omega
          have hrow5 := row_keep HRW.out fun k e => by
            have e2 : g = k := Option.some.inj e
            subst e2
            exact hf5.block g hg3.2 hgo
          have HM5 := Lib.hid hm5
          have HR5 := Lib.hid hr5
          have HD5 := Lib.hid hd5
          have HF5 := Lib.hid (HF4.out.trans hf5 (Olds.refl _ _))
          have HRW5 := Lib.hid hrow5
          have hgs : g < w5.heap.size := (hrow5.lt g rfl).2
          have HGO := Lib.hid hgo
          clear hm5 hr5 hund5 hU5 hd5 hf5 hrow5 hgo HBA HRW HM4 HF4
          go_wp2_with fail
          have HC0 : Hid (∀ Wd, Below w5.heap.size w5 Wd → Wd.cell? ⟨g, 0, none⟩ = some (.int .i64 (-x))) := Lib.hid fun Wd hb => by
            obtain ⟨q', p', e, _, hc⟩ := Vals.of_own (own_below HRW5.out hb) 0 (.int .i64 (-x)) rfl
            cases e
            exact hc
          refine wp_region_noPanic ?_
          refine wp_region_seqG (fun Wd => Wd.cell? ⟨g, 0, none⟩ = some (.int .i64 (-x))) (fun _ => True) [0, 1, 2, 3, 4, 5, 6, 7] [3] [0, 1, 2, 4, 5] [7] [] (by kernel_rfl) (by kernel_rfl) rfl (by kernel_rfl) (by kernel_rfl) (by kernel_rfl) (fun _ _ _ _ _ h => h) ?_ (fun hSS hRR => ?_)
          · exact ⟨HC0.out _ (stepD1 w5), trivial⟩
          clear hSS hRR HC0
          have HM6 := Lib.hid ((HM5.out.after (stepD1 w5)).relabel (A := some ⟨g, 0, none⟩) (fun a e => by
            cases e
            refine ⟨rfl, ?_, Nat.lt_of_lt_of_le hgs (stepD1 w5).size, HGO.out⟩
            have := HR3.out.m.base_le
            show base ≤ g
            omega))
          have HF6 := Lib.hid (HF5.out.trans (SFr.of_below (stepD1 w5) o2) (Olds.refl _ _))
          have HRW6 := Lib.hid (own_below HRW5.out (stepD1 w5))
          have HO6 : Hid (Olds w3 o2 (ownC o2 (some ⟨g, 0, none⟩))) := Lib.hid fun k hk => if_neg (by show k ≠ g; omega)
          clear HM5 HF5 HRW5 hgs
          generalize w5.drew = w6 at HM6 HF6 HRW6 ⊢
          have hclen : (-x :: out).length = out.length + 1 := rfl
          have hcb : (s2.back lv p).cls.length ≤ 4000000000000 := by
            show s2.cls.length ≤ _
            have := HBD.out s2 HR3.out.i HR3.out.my HR3.out.cn
            omega
          have hunb : G5.un ≤ 8000000000000000000 := by
            rw [HD5.out.2]
            show G2.un ≤ _
            have h1 := HR3.out.un2
            have h4 := HBD.out s2 HR3.out.i HR3.out.my HR3.out.cn
            have h2 : (s2.cls.length - s.cls.length) * (n + 1) ≤ M * (n + 1) := Nat.mul_le_mul_right _ (by omega)
            have := HB2.out
            have h3 : ({ G2 with wrong := wrap64 (G2.wrong + 1) } : SG).un = G2.un := rfl
            omega
          have hnodup : (-x :: out).Nodup := (List.pairwise_map.1 HLN.out.nd).imp fun h e => h (by rw [e])
          have HADD := Lib.hid (add_any (c := -x :: out) HM6.out HR5.out.ui (by omega) (Vals.of_own HRW6.out) (by rw [hclen]; exact hgc) (fun k p e => by cases e; exact ownC_at) (by rw [hclen]; omega) hnodup HLN.out.rng hcb hunb)
          rw [hclen] at HADD
          have hwx : x ≠ 0 ∧ x.natAbs ≤ n := by
            have := HLN.out.rng (-x) (List.mem_cons_self ..)
            omega
          clear hnodup hcb
          (refine wpSeqG_movR rfl rfl rfl ?_; intro o ho; simp only [List.getElem?_toArray, List.getElem?_cons_zero, List.getElem?_cons_succ, Option.some.injEq] at ho; subst ho; refine ⟨?_, Or.inl ⟨by rfl, fun W hSW => ?_⟩, ?_⟩; rotate_left; (focus (go_simp; first | done | with_reducible rfl)); try simp only [Act.put, List.setIfInBounds_toArray, List.set_cons_zero, List.set_cons_succ])
          (refine wpSeqG_movR rfl rfl rfl ?_; intro o ho; simp only [List.getElem?_toArray, List.getElem?_cons_zero, List.getElem?_cons_succ, Option.some.injEq] at ho; subst ho; refine ⟨?_, Or.inl ⟨by rfl, fun W hSW => ?_⟩, ?_⟩; rotate_left; (focus (go_simp; first | done | with_reducible rfl)); try simp only [Act.put, List.setIfInBounds_toArray, List.set_cons_zero, List.set_cons_succ])
          (refine wpSeqG_movR rfl rfl rfl ?_; intro o ho; simp only [List.getElem?_toArray, List.getElem?_cons_zero, List.getElem?_cons_succ, Option.some.injEq] at ho; subst ho; refine ⟨?_, Or.inl ⟨by rfl, fun W hSW => ?_⟩, ?_⟩; rotate_left; (focus (go_simp; first | done | with_reducible rfl)); try simp only [Act.put, List.setIfInBounds_toArray, List.set_cons_zero, List.set_cons_succ])
          (refine wpSeqG_mov rfl rfl ?_; intro o ho; simp only [List.getElem?_toArray, List.getElem?_cons_zero, List.getElem?_cons_succ, Option.some.injEq] at ho; subst ho; refine ⟨?_, Or.inl ⟨by rfl, fun W hSW => ?_⟩, ?_⟩; rotate_left; (focus (go_simp; first | done | with_reducible rfl)); try simp only [Act.put, List.setIfInBounds_toArray, List.set_cons_zero, List.set_cons_succ])
          (refine wpSeqG_movR rfl rfl rfl ?_; intro o ho; simp only [List.getElem?_toArray, List.getElem?_cons_zero, List.getElem?_cons_succ, Option.some.injEq] at ho; subst ho; refine ⟨?_, Or.inl ⟨by rfl, fun W hSW => ?_⟩, ?_⟩; rotate_left; (focus (go_simp; first | done | with_reducible rfl)); try simp only [Act.put, List.setIfInBounds_toArray, List.set_cons_zero, List.set_cons_succ])
          (refine wpSeqG_movR rfl rfl rfl ?_; intro o ho; simp only [List.getElem?_toArray, List.getElem?_cons_zero, List.getElem?_cons_succ, Option.some.injEq] at ho; subst ho; refine ⟨?_, Or.inl ⟨by rfl, fun W hSW => ?_⟩, ?_⟩; rotate_left; (focus (go_simp; first | done | with_reducible rfl)); try simp only [Act.put, List.setIfInBounds_toArray, List.set_cons_zero, List.set_cons_succ])
          (refine wpSeqG_fix rfl rfl rfl ?_; intro o ho; simp only [List.getElem?_toArray, List.getElem?_cons_zero, List.getElem?_cons_succ, Option.some.injEq] at ho; subst ho; intro K hK)
          go_simp
          refine HADD.out.mono ?_
          rintro e w7 ⟨rfl, G7, o7, had, hvc⟩
          have HAD := Lib.hid had
          obtain ⟨q', p', eg, _, hc0⟩ := hvc 0 (.int .i64 (-x)) rfl
          cases eg
          have HC7 := Lib.hid hc0
          clear had hvc hc0 HADD
          (refine hK.out _ _ (fun _ _ => HC7.out) (fun _ _ => trivial) ?_; clear hK K; try simp only [Act.put, List.setIfInBounds_toArray, List.set_cons_zero, List.set_cons_succ])
          have HPUT := Lib.hid (put_any HAD.out.m (by omega) (x := -x) (why := (s2.cls.length : Int)) (by omega) (by omega) (by
            have h1 := HR3.out.i.len
            show (s2.tr.take p).length ≤ _
            rw [List.length_take]
            omega))
          (refine wpSeqG_fix rfl rfl rfl ?_; intro o ho; simp only [List.getElem?_toArray, List.getElem?_cons_zero, List.getElem?_cons_succ, Option.some.injEq] at ho; subst ho; intro K hK)
          go_simp
          refine HPUT.out.mono ?_
          rintro e w8 ⟨rfl, T8, ct8, o8, hm8, ho8, hf8⟩
          have hrA : SRel n ((s2.back lv p).add (-x :: out)) G7 := by
            refine ⟨fun v h1 h2 => by rw [HAD.out.V]; exact HR5.out.vv v h1 h2, fun i y hy => by rw [HAD.out.LV]; exact HR5.out.lv i y hy, fun i y r hy => by rw [HAD.out.RV]; exact HR5.out.rv i y r hy, ?_⟩
            rw [HAD.out.und, List.take_length]
            exact HR5.out.ui.add _
          have hbi := HR3.out.i.back HLN.out.lim
          have hr8 := hrA.put HAD.out.m (fun l hl => Nat.le_of_lt (hbi.llt l hl)) (x := -x) (why := (s2.cls.length : Int)) (by omega) (by omega) (by
            show -x ∉ (s2.back lv p).lits
            rw [back_lits]
            exact HLN.out.u2) (by
            show - -x ∉ (s2.back lv p).lits
            rw [back_lits, Int.neg_neg]
            exact HLN.out.u1) T8 ct8
          have hfa : SFr o2 w3 w7 := HF6.out.trans HAD.out.fr HO6.out
          have hoa : Olds w3 o2 o7 := HO6.out.trans HF6.out.size HAD.out.olds
          have HRN := Lib.hid (HR3.out.learn HL.out HLN.out hm8 hr8 (by
            show G7.dead = false
            rw [HAD.out.dead, HD5.out.1]
            exact HR3.out.dead) (by
            show G7.un ≤ _
            have h1 := HAD.out.un
            rw [HD5.out.2, hclen] at h1
            have h3 : ({ G2 with wrong := wrap64 (G2.wrong + 1) } : SG).un = G2.un := rfl
            have h4 : ({ { G2 with wrong := wrap64 (G2.wrong + 1) } with WV := W } : SG).un = G2.un := rfl
            omega) (hoa.trans hfa.size ho8) (hfa.trans hf8 hoa))
          clear hm8 ho8 hf8 hrA hbi hr8 hfa hoa HPUT
          (refine hK.out _ _ (fun h => by simp at h) (fun _ _ => trivial) ?_; clear hK K; try simp only [Act.put, List.setIfInBounds_toArray, List.set_cons_zero, List.set_cons_succ])
          refine wpSeqG_done ?_
          go_wp2_with fail
          go_roundw
          case rel => exact ⟨_, _, o8, HRN.out.1⟩
          case measure =>
            rw [HRN.out.1.m.mu, HMU.out]
            have := HMU2.out
            have := HRN.out.2
            omega
/-- Of few variables. -/
theorem run_any (h : SMem w base b n s G o) (hr : SRel n s G) (hi : Inv n F s) {l : List Int} (hg : GInv l s) (hdead : G.dead = true → ∀ m, ¬ SatF m F) (hwat : G.dead = false → Wat s) (hw2 : G.dead = false → W2 s) (hlims : s.lims = []) (hn : n ≤ 900000) {B : Option Addr} {c : Nat} (hA : Vals w w.heap.size B (i64s l)) (hAo : l ≠ [] → ∀ k p, B = some ⟨k, p, none⟩ → o k = none) (hll : l.length ≤ 140737488355328) (hc : l.length ≤ c) (hl : ∀ x ∈ l, x ≠ 0 ∧ x.natAbs ≤ n)
    (hb1 : s.cls.length + 2 ^ n ≤ 3999999999999) (hb2 : G.un + 2 ^ n * (n + 1) ≤ 8000000000000000000) :
    Calls Try.prog 27 #[.pointer (some ⟨b, 0, none⟩), .slice B l.length c, .int .i64 0] w (RunPost w n F s o l) :=
  run_gen h hr hi hg hdead hwat hw2 hlims hn hA hAo hll hc hl (2 ^ n) (fun s' _ _ h1 => by have := phi_lt (n := n) s'; omega) hb1 hb2
end
end Go.Proofs.Ytbkmgblijncjhaa
