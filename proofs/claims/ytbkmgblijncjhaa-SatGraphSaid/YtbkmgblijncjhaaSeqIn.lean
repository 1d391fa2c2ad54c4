/- A region that draws its order, walked once in an order of ours, inside a fence (a round of a range over a function). -/
import Derived.OrdersIn
import Derived.OwnWalkIn
import Derived.TacticsInMore
import Derived.Test.YtbkmgblijncjhaaG1
namespace Go.Proofs.Ytbkmgblijncjhaa
open Go.RowKit Go

section
variable {F : Fence} {n : Nat} {P : Program} {ops : Array Oper} {Q : Exit → Act → World → Prop} {md : Region.Mode} {S : World → Prop} {late mov : Nat → Bool}

/-- No operation defers. -/
def noDefer (ops : Array Oper) : Bool := ops.all fun o => match o.op with | .defer _ => false | _ => true

theorem noDefer_sem (h : noDefer ops = true) {i : Nat} {o : Oper} (ho : ops[i]? = some o) (r : Option Nat) (ρ : Operand → Value) : o.semAt r ρ = execOp ρ o := by
  cases r with
  | none => simp [Oper.semAt]
  | some l =>
    refine Oper.semAt_some l ρ o fun c hc => ?_
    have := Array.all_eq_true'.1 h o (Array.mem_of_getElem? ho)
    rw [hc] at this
    cases this

def YieldsIn (P : Program) (ops : Array Oper) (S : World → Prop) (o : Oper) (v : Value) (a : Act) : Prop := YieldsIf P ops S o v a ∧ ∀ w, S w → o.about P w a.eval = none

theorem YieldsIn.wpOpIn {i : Nat} {o : Oper} {v : Value} {a : Act} (hd : noDefer ops = true) (hi : ops[i]? = some o) (hy : YieldsIn P ops S o v a)
    {K : Act → World → Prop} {w : World} (hS : S w) (h : K (a.put o.dst v) w) : wpOpIn F n P ops Q i K a w := by
  unfold Go.wpOpIn
  simp only [hi]
  have hab : ∀ f, o.about P w a.eval = some f → F.fn f := fun f hf => by rw [hy.2 w hS] at hf; cases hf
  rcases hy.1 with ⟨hw, hv⟩ | ⟨hw, rfl⟩
  · simp only [hw, if_true, Oper.wpIn, noDefer_sem hd hi, hv w hS, Oper.uponIn]; exact ⟨hab, h⟩
  · simp only [hw, Bool.false_eq_true, if_false]; exact ⟨hab, h⟩

theorem wpOpIn_putIf {j : Nat} {oi oj : Oper} {v : Value} (hd : noDefer ops = true) (hj : ops[j]? = some oj) (hap : oi.apart ops oj = true)
    (hsi : ∀ cs b, oi.op ≠ .select cs b) (hsj : ∀ cs b, oj.op ≠ .select cs b)
    (hQ : ∀ c a w, Q (.panic c) (a.put oi.dst v) w → Q (.panic c) a w) {K : Act → World → Prop} {a : Act} {w : World}
    (hy : YieldsIn P ops S oi v a) (h : wpOpIn F n P ops Q j K (a.put oi.dst v) w) :
    wpOpIn F n P ops Q j (fun a' w' => YieldsIn P ops S oi v a' ∧ K (a'.put oi.dst v) w') a w := by
  obtain ⟨h1, h2, h3⟩ := Oper.apart_spec hap
  have keep : ∀ (a : Act), YieldsIn P ops S oi v a → ∀ u, YieldsIn P ops S oi v (a.put oj.dst u) := fun a hy u =>
    ⟨hy.1.of_same (execOp_put oi hsi a oj.dst u h3) (wanted_put oi a oj.dst u h3), fun w hw => by rw [about_put oi w a oj.dst u h3]; exact hy.2 w hw⟩
  have keepD : ∀ d, YieldsIn P ops S oi v { a with defers := d :: a.defers } := fun d => ⟨hy.1.of_same rfl rfl, hy.2⟩
  have hsem := noDefer_sem hd hj
  unfold Go.wpOpIn at *
  simp only [hj] at h ⊢
  rw [wanted_put oj a oi.dst v h1, about_put oj w a oi.dst v h1] at h
  split
  · rename_i hw
    simp only [hw, if_true] at h
    unfold Oper.wpIn at *
    rw [about_put oj w a oi.dst v h1] at h
    refine ⟨h.1, ?_⟩
    have h := h.2
    rw [hsem, execOp_put oj hsj a oi.dst v h1] at h
    rw [hsem]
    generalize (execOp a.eval oj).run P w = r at *
    cases r with
    | ok x w' =>
      cases x <;> simp only [Oper.uponIn] at h ⊢
      case value u => exact ⟨keep a hy u, by rw [← Act.put_comm a v u h2]; exact h⟩
      case skip => exact ⟨keep a hy _, by rw [← Act.put_comm a v undef h2]; exact h⟩
      case defer d =>
        refine ⟨keep _ (keepD d) _, ?_⟩
        rw [← Act.put_comm _ v undef h2, ← Act.put_defers]
        exact h
      case enter f args =>
        refine ⟨h.1, CallsIn.mono h.2 fun e w'' he => ?_⟩
        cases e with
        | returned u => exact ⟨keep a hy u, by rw [← Act.put_comm a v u h2]; exact he⟩
        | panicked c => exact hQ _ _ _ he
        | outgrown => exact he
      case row row args => exact ⟨h.1, RowsIn.mono h.2 fun u w'' he => ⟨keep a hy u, by rw [← Act.put_comm a v u h2]; exact he⟩⟩
      case round l f tmps assign body =>
        refine ⟨h.1, RoundIn.mono h.2 fun e w'' he => ?_⟩
        cases e with
        | returned u => exact ⟨keep a hy u, by rw [← Act.put_comm a v u h2]; exact he⟩
        | panicked c => exact hQ _ _ _ he
        | outgrown => exact he
    | halt x w' =>
      cases x <;> simp only [Oper.uponIn] at h ⊢
      case panic u => exact hQ _ _ _ h
  · rename_i hw
    simp only [hw] at h
    exact ⟨h.1, keep a hy _, by rw [← Act.put_comm a v undef h2]; exact h.2⟩

def wpAnyLIn (F : Fence) (n : Nat) (P : Program) (md : Region.Mode) (ops : Array Oper) (Q : Exit → Act → World → Prop) (S : World → Prop) (late : Nat → Bool) : Nat → Array Bool → Act → World → Prop
  | 0, listed, a, w => Region.ready md ops listed = [] ∧ Q .normal a w
  | fuel + 1, listed, a, w =>
    (Region.ready md ops listed = [] → Q .normal a w) ∧
    ∀ i ∈ Region.ready md ops listed, wpOpIn F n P ops Q i (fun a' w' => (late i = false → S w') ∧ wpAnyLIn F n P md ops Q S late fuel (listed.setIfInBounds i true) a' w') a w

theorem wpAnyIn_of_L : ∀ (fuel : Nat) (listed : Array Bool) (a : Act) (w : World), wpAnyLIn F n P md ops Q S late fuel listed a w → wpAnyIn F n P md ops Q fuel listed a w
  | 0, _, _, _, h => h
  | fuel + 1, _, _, _, h => ⟨h.1, fun i hi => wpOpIn_mono (fun a' w' h' => wpAnyIn_of_L fuel _ a' w' h'.2) (h.2 i hi)⟩

theorem wpAnyLIn_first {i : Nat} {oi : Oper} {v : Value} (hd : noDefer ops = true) (hi : ops[i]? = some oi) (hsel : ∀ (j : Nat) (o : Oper) cs b, ops[j]? = some o → o.op ≠ .select cs b)
    (hQ : ∀ c a w, Q (.panic c) (a.put oi.dst v) w → Q (.panic c) a w)
    (hlate : ∀ j, late j = true → Region.waitsFor md ops j i = true) :
    ∀ (fuel : Nat) (listed : Array Bool) (a : Act) (w : World),
      (∀ j oj, ops[j]? = some oj → j ≠ i → listed.getD j true = false → (∀ e ∈ oj.after, Region.binds md e = true → e.on ≠ i) → oi.apart ops oj = true) →
      i ∈ Region.ready md ops listed → YieldsIn P ops S oi v a → S w →
      wpAnyLIn F n P md ops Q S late fuel (listed.setIfInBounds i true) (a.put oi.dst v) w → wpAnyLIn F n P md ops Q S late (fuel + 1) listed a w := by
  intro fuel
  induction fuel with
  | zero =>
    intro listed a w _ hr hy hS H
    refine ⟨fun h => (by rw [h] at hr; cases hr), fun j hj => ?_⟩
    by_cases hji : j = i
    · subst hji; exact hy.wpOpIn hd hi hS ⟨fun _ => hS, H⟩
    · have := ready_mono hj hji
      rw [H.1] at this
      cases this
  | succ fuel ih =>
    intro listed a w hfree hr hy hS H
    refine ⟨fun h => (by rw [h] at hr; cases hr), fun j hj => ?_⟩
    by_cases hji : j = i
    · subst hji; exact hy.wpOpIn hd hi hS ⟨fun _ => hS, H⟩
    · have h1 := H.2 j (ready_mono hj hji)
      obtain ⟨hjun, oj, hoj, hall⟩ := mem_ready.1 hj
      have hnot : ∀ e ∈ oj.after, Region.binds md e = true → e.on ≠ i := fun e he hb heq => by
        have h1 := hall e he hb
        have h0 := (mem_ready.1 hr).1
        rw [heq] at h1
        rcases Nat.lt_or_ge i listed.size with h' | h'
        · simp [h'] at h0 h1; rw [h0] at h1; cases h1
        · simp [Array.getElem?_eq_none h'] at h1
      have hl : late j = false := by
        cases hl : late j with
        | false => rfl
        | true =>
          obtain ⟨o2, ho2, e, he, hb, heq⟩ := Region.waitsFor_spec (hlate j hl)
          rw [hoj] at ho2
          cases ho2
          exact absurd heq (hnot e he hb)
      have h2 := wpOpIn_putIf hd hoj (hfree j oj hoj hji hjun hnot) (fun cs b => hsel i oi cs b hi) (fun cs b => hsel j oj cs b hoj) hQ hy h1
      have hfree' : ∀ k ok, ops[k]? = some ok → k ≠ i → (listed.setIfInBounds j true).getD k true = false →
          (∀ e ∈ ok.after, Region.binds md e = true → e.on ≠ i) → oi.apart ops ok = true := fun k ok hk hki hun hno => by
        refine hfree k ok hk hki ?_ hno
        by_cases hjk : j = k
        · subst hjk; exact hjun
        · rw [getD_set_ne true hjk] at hun; exact hun
      refine wpOpIn_mono (fun a' w' h3 => ⟨h3.2.1, ih (listed.setIfInBounds j true) a' w' hfree' (ready_mono hr (Ne.symm hji)) h3.1 (h3.2.1 hl) ?_⟩) h2
      rw [Array.setIfInBounds_comm _ _ hji]
      exact h3.2.2

def wpSeqIn (F : Fence) (n : Nat) (P : Program) (ops : Array Oper) (Q : Exit → Act → World → Prop) (S : World → Prop) (mov late : Nat → Bool) : List Nat → Act → World → Prop
  | [], a, w => Q .normal a w
  | i :: is, a, w =>
    (mov i = true ∧ ∃ o v, ops[i]? = some o ∧ YieldsIn P ops S o v a ∧ wpSeqIn F n P ops Q S mov late is (a.put o.dst v) w) ∨
    (mov i = false ∧ wpOpIn F n P ops Q i (fun a' w' => (late i = false → S w') ∧ wpSeqIn F n P ops Q S mov late is a' w') a w)

theorem wpAnyLIn_seq (hd : noDefer ops = true) (hsel : Region.noSelect ops = true) (hlt : ∀ j, late j = true → j < ops.size) (hQ : ∀ c a d v w, Q (.panic c) (Act.put a d v) w → Q (.panic c) a w) :
    ∀ (is : List Nat) (f : Bool) (listed : Array Bool) (a : Act) (w : World), seqB md ops mov late f is listed = true → (f = true → S w) → wpSeqIn F n P ops Q S mov late is a w → wpAnyLIn F n P md ops Q S late is.length listed a w
  | [], f, listed, a, w, hb, _, h => ⟨by simpa [seqB] using hb, h⟩
  | i :: is, f, listed, a, w, hb, hf, h => by
    rcases h with ⟨hm, o, v, ho, hy, h⟩ | ⟨hm, h⟩
    · rw [seqB, hm] at hb
      simp only [cond_true, Bool.and_eq_true] at hb
      obtain ⟨hf1, hr, hfr, hl, hb⟩ := hb
      refine wpAnyLIn_first hd ho (Region.noSelect_spec hsel) (fun c a w h => hQ c a _ v w h) (fun j hj => ?_) is.length listed a w (Region.free_spec ho hfr) (by simpa using hr) hy (hf hf1) ?_
      · have := List.all_eq_true.1 hl j (List.mem_range.2 (hlt j hj))
        rw [hj] at this
        simpa using this
      · exact wpAnyLIn_seq hd hsel hlt hQ is f _ _ _ hb hf h
    · rw [seqB, hm] at hb
      simp only [cond_false, Bool.and_eq_true, beq_iff_eq] at hb
      obtain ⟨hr, hb⟩ := hb
      refine ⟨fun h0 => (by rw [hr] at h0; cases h0), fun j hj => ?_⟩
      rw [hr] at hj
      obtain rfl : j = i := by simpa using hj
      refine wpOpIn_mono (fun a' w' h3 => ⟨h3.1, wpAnyLIn_seq hd hsel hlt hQ is (f && !late j) _ a' w' hb (fun h4 => ?_) h3.2⟩) h
      simp only [Bool.and_eq_true, Bool.not_eq_true'] at h4
      exact h3.1 h4.2

theorem wpIn_region_noPanic {id : Nat} {b : Bool} {a : Act} {w : World} (h : (Code.region id ops b).wpIn F n P (NoPanic Q) a w) : (Code.region id ops b).wpIn F n P Q a w :=
  wpIn_mono h NoPanic.imp

theorem wpIn_region_seq {id : Nat} {a : Act} {w : World} (S : World → Prop) (order movs lates : List Nat) (hm : P.follows .mixedOrders = true) (hsel : Region.noSelect ops = true) (hd : noDefer ops = true)
    (hn : order.length = ops.size) (hlt : lates.all (fun j => decide (j < ops.size)) = true)
    (hb : seqB .any ops (fun i => movs.contains i) (fun i => lates.contains i) true order (Array.replicate ops.size false) = true)
    (hQ : ∀ c a d v w, Q (.panic c) (Act.put a d v) w → Q (.panic c) a w)
    (hS : S w.drew) (h : S w.drew → wpSeqIn F n P ops Q S (fun i => movs.contains i) (fun i => lates.contains i) order a w.drew) : (Code.region id ops true).wpIn F n P Q a w := by
  refine wpIn_region_any hm (wpAnyIn_of_L (S := S) (late := fun i => lates.contains i) _ _ _ _ ?_)
  rw [← hn]
  refine wpAnyLIn_seq (mov := fun i => movs.contains i) hd hsel (fun j hj => ?_) hQ order true _ a _ (by rw [hn]; exact hb) (fun _ => hS) (h hS)
  have := List.all_eq_true.1 hlt j (by simpa using hj)
  simpa using this

theorem wpSeqIn_done {a : Act} {w : World} (h : Q .normal a w) : wpSeqIn F n P ops (NoPanic Q) S mov late [] a w := NoPanic.normal h
theorem wpSeqIn_mov {i : Nat} {is : List Nat} {a : Act} {w : World} (hm : mov i = true) (hi : (ops[i]?).isSome = true) (h : ∀ o, ops[i]? = some o → (∃ v, YieldsIf P ops S o v a ∧ wpSeqIn F n P ops Q S mov late is (a.put o.dst v) w) ∧ ∀ w, S w → o.about P w a.eval = none) : wpSeqIn F n P ops Q S mov late (i :: is) a w := by
  obtain ⟨o, ho⟩ := Option.isSome_iff_exists.1 hi
  obtain ⟨⟨v, hy, h⟩, hab⟩ := h o ho
  exact .inl ⟨hm, o, v, ho, ⟨hy, hab⟩, h⟩
theorem wpSeqIn_fix {i : Nat} {is : List Nat} {a : Act} {w : World} (hm : mov i = false) (hi : (ops[i]?).isSome = true)
    (h : ∀ o, ops[i]? = some o → ∀ K' : Act → World → Prop, Shut (∀ a w, (late i = false → S w) → wpSeqIn F n P ops Q S mov late is a w → K' a w) → if Region.wanted o (yielded ops a.tmps) = true then Oper.wpIn F n P o a w K' Q else (∀ f, o.about P w a.eval = some f → F.fn f) ∧ K' (a.put o.dst undef) w) : wpSeqIn F n P ops Q S mov late (i :: is) a w := by
  obtain ⟨o, ho⟩ := Option.isSome_iff_exists.1 hi
  exact .inr ⟨hm, wpOpIn_step ho (fun K' hK => h o ho K' (fun a w h1 h2 => hK a w ⟨h1, h2⟩))⟩
end
end Go.Proofs.Ytbkmgblijncjhaa
