/- For the spoilt graphs: append as a step of a region that draws its order; a pair laid into a row of the call's own. -/
import Derived.Test.YtbdhkagcbncefaaSeq3
import Derived.Test.YtbdhkagcbncefaaG5
import Derived.Test.YtbdhkagcbncefaaG3
import Derived.Test.YtbdhkagcbncefaaG2
set_option linter.unusedVariables false
set_option linter.unusedSimpArgs false
namespace Go.Proofs.Ytbdhkagcbncefaa
open Go.RowKit Go.Maps

theorem run_append_prs (w : World) (base : Nat) (ty : TypeId) (ps : List Pr) (v : Value) (hown : w.ownsRow base 41 2 v ps.length (flat ps))
    (B : Nat) (A : Option Addr) (c : Nat) (qs : List Pr) (hq : Prs w B A qs) (h63 : ps.length + qs.length ≤ 1000) (hbase : base ≤ w.heap.size) (rs : List Pr) (hrs : ps ++ qs = rs) :
    ∃ A' c' w', (Builtin.append_ #[22, 22] ty #[v, .slice A qs.length c]).run Try.prog w = .ok (.slice A' rs.length c') w' ∧ w'.ownsRow base 41 2 (.slice A' rs.length c') rs.length (flat rs) ∧ rs.length ≤ c' ∧ w.grownBy w' v.ownBlock := by
  obtain ⟨i0, hi0, hz0, hz1, hz2⟩ := info_parts pairInfo
  subst hrs
  cases A with
  | none =>
    obtain rfl := hq.none_ rfl
    have hrun := run_append_nil_src (P := Try.prog) w base 22 ty 41 i0 2 Try.underlying22 hi0 v ps.length (flat ps) hown c
    obtain ⟨A', c', rfl, hc⟩ := own_form hown
    rw [List.append_nil]
    exact ⟨A', c', w, hrun, hown, hc, World.grownBy.refl w _⟩
  | some ad =>
    obtain ⟨v', w', hr, h2, h3, h4, h5⟩ := run_append_own_at (P := Try.prog) w base 22 ty 41 i0 _ 2 16 Try.underlying22 hi0 hz0 hz1 hz2 rfl (by omega) v ps.length (flat ps) hown ad qs.length c (flat qs) (flat_length qs) (hq.vals.cells ad rfl) (flat_one qs) (by unfold maxLen; omega) (by omega) hbase
    rw [← flat_append, ← List.length_append] at h2
    obtain ⟨A', c', rfl, hc⟩ := own_form h2
    exact ⟨A', c', w', hr, h2, hc, h3⟩

theorem step_append_prs {ops : Array Oper} {o : Oper} {a : Act} {w : World} {K : Act → World → Prop} {Q : Exit → Act → World → Prop} {E : Prop} (hgd : o.guard = none) (s x : Operand)
    (ho : o.op = .call { callee := .builtin .append, args := #[s, x], argTypes := #[22, 22] })
    (base : Nat) (ps : List Pr) (v : Value) (hs : a.eval s = v) (hown : w.ownsRow base 41 2 v ps.length (flat ps))
    (B : Nat) (A : Option Addr) (c : Nat) (qs : List Pr) (hx : a.eval x = .slice A qs.length c) (hq : Prs w B A qs) (h63 : ps.length + qs.length ≤ 1000) (hbase : base ≤ w.heap.size) (rs : List Pr) (hrs : ps ++ qs = rs)
    (h : ∀ A' c' w', Hid (OwnF w' base 41 2 (.slice A' rs.length c') rs.length (flat rs)) → rs.length ≤ c' → Hid (w.grownBy w' v.ownBlock) → K (a.put o.dst (.slice A' rs.length c')) w') :
    if Region.wanted o (yielded ops a.tmps) = true then Oper.wp Try.prog o a w K Q else E := by
  have hw : Region.wanted o (yielded ops a.tmps) = true := by simp [Region.wanted, hgd]
  rw [if_pos hw]
  obtain ⟨A', c', w', hr, h2, h3, h4⟩ := run_append_prs w base o.type ps v hown B A c qs hq h63 hbase rs hrs
  unfold Oper.wp execOp
  simp only [ho, resolve, invoke, builtin, Sem.run_bind, Sem.run_pure, Result.andThen_ok, List.map_toArray, List.map_cons, List.map_nil, hs, hx, hr]
  exact h A' c' w' (Lib.hid ⟨h2⟩) h3 (Lib.hid h4)

theorem wpList_append_prs {w : World} {ops : Array Oper} {rest : List Oper} {o : Oper} {a : Act} {Q : Exit → Act → World → Prop} (hgd : o.guard = none) (s x : Operand)
    (ho : o.op = .call { callee := .builtin .append, args := #[s, x], argTypes := #[22, 22] })
    (base : Nat) (ps : List Pr) (v : Value) (hs : a.eval s = v) (hown : w.ownsRow base 41 2 v ps.length (flat ps))
    (B : Nat) (A : Option Addr) (c : Nat) (qs : List Pr) (hx : a.eval x = .slice A qs.length c) (hq : Prs w B A qs) (h63 : ps.length + qs.length ≤ 1000) (hbase : base ≤ w.heap.size) (rs : List Pr) (hrs : ps ++ qs = rs)
    (h : ∀ A' c' w', Hid (OwnF w' base 41 2 (.slice A' rs.length c') rs.length (flat rs)) → rs.length ≤ c' → Hid (w.grownBy w' v.ownBlock) → wpList Try.prog ops Q rest (a.put o.dst (.slice A' rs.length c')) w') :
    wpList Try.prog ops Q (o :: rest) a w := by
  refine wpList_plain hgd fun K hK => ?_
  obtain ⟨A', c', w', hr, h2, h3, h4⟩ := run_append_prs w base o.type ps v hown B A c qs hq h63 hbase rs hrs
  unfold Oper.wp execOp
  simp only [ho, resolve, invoke, builtin, Sem.run_bind, Sem.run_pure, Result.andThen_ok, List.map_toArray, List.map_cons, List.map_nil, hs, hx, hr]
  exact hK _ _ (h A' c' w' (Lib.hid ⟨h2⟩) h3 (Lib.hid h4))

theorem flat_set : ∀ (ps : List Pr) (K : Nat) (p : Pr), flat (ps.set K p) = ((flat ps).set (K * 2) (.int .i64 p.1)).set (K * 2 + 1) (.int .i64 p.2)
  | [], K, p => by simp [flat_nil]
  | q :: ps, 0, p => rfl
  | q :: ps, K + 1, p => by
    have e : (K + 1) * 2 = K * 2 + 1 + 1 := by omega
    rw [List.set_cons_succ, flat_cons, flat_set ps K p, flat_cons, e]
    rfl

/-- A pair laid into a row of the call's own. -/
theorem own_put2 {w : World} {base : Nat} {e : TypeId} {n c K : Nat} {Y : Option Addr} {ps : List Pr} (h : w.ownsRow base e 2 (.slice Y n c) n (flat ps)) (hK : K < n) :
    ∃ g, Y = some ⟨g, 0, none⟩ ∧ base ≤ g ∧ (∀ i, w.frozen? ⟨g, i, none⟩ = false) ∧ (∃ u0, w.cell? ⟨g, K * 2, none⟩ = some u0) ∧ (∃ u1, w.cell? ⟨g, K * 2 + 1, none⟩ = some u1) ∧
      ∀ p : Pr, ((w.setCell ⟨g, K * 2, none⟩ (.int .i64 p.1)).setCell ⟨g, K * 2 + 1, none⟩ (.int .i64 p.2)).ownsRow base e 2 (.slice Y n c) n (flat (ps.set K p)) := by
  have hlen := h.1
  have hV := Vals.of_own h
  rcases h.2 with ⟨_, h0⟩ | ⟨g, cap, cur, hv, hg, hh, hnc, hcm, hcs, htk⟩
  · omega
  · injection hv with hA _ hc
    subst hA hc
    have hB : Blk w g e cur := hh
    refine ⟨g, rfl, hg, fun i => hB.frozen i, ?_, ?_, fun p => ?_⟩
    · obtain ⟨b, o, e', _, hc⟩ := hV (K * 2) _ (List.getElem?_eq_getElem (by omega))
      cases e'
      rw [Nat.zero_add] at hc
      exact ⟨_, hc⟩
    · obtain ⟨b, o, e', _, hc⟩ := hV (K * 2 + 1) _ (List.getElem?_eq_getElem (by omega))
      cases e'
      rw [Nat.zero_add] at hc
      exact ⟨_, hc⟩
    · refine ⟨by rw [flat_set]; simpa using hlen, .inr ⟨g, c, (cur.setIfInBounds (K * 2) (.int .i64 p.1)).setIfInBounds (K * 2 + 1) (.int .i64 p.2), rfl, hg, (hB.set_ _ _).set_ _ _, hnc, hcm, by simpa using hcs, ?_⟩⟩
      rw [flat_set, ← htk]
      simp [List.take_set]

theorem own_nil (w : World) (base : Nat) (e : TypeId) (size : Nat) : w.ownsRow base e size (.slice none 0 0) 0 [] := ⟨by simp, .inl ⟨rfl, rfl⟩⟩
end Go.Proofs.Ytbdhkagcbncefaa
