/- Parsing by the document: the state in memory; is, need, two, unary. Parsing by the document: need, two, unary (printed by laws9f.py). Parsing by the document: chain, imply, whole (printed by laws9g.py). Parsing by the document: until (printed by laws9h.py). -/
import Derived.Test.YtijecfmblddanaaGreatDoorG8
import Derived.Test.YtijecfmblddanaaGreatDoorG2
import Derived.Test.YtijecfmblddanaaGreatDoorG1
set_option linter.unusedVariables false
set_option linter.unusedSimpArgs false
namespace Go.Proofs.YtijecfmblddanaaGreatDoor
open Go.RowKit Go.Maps

/-- The state: so many tokens are gone, or what went wrong with how many left. -/
inductive RS where
  | on (k : Nat)
  | off (e : Int) (m : Nat)
def isS (l : List Tk) (s : RS) (x : List UInt8) : Bool := match s with
  | .on k => takes x (leftT l k)
  | .off _ _ => false
def needS (l : List Tk) (s : RS) (x : List UInt8) : RS := match s with
  | .on k => if takes x (leftT l k) then .on (k + 1) else .off 41 (l.length - k)
  | .off e m => .off e m
/-- What a function does from a state on. -/
def rOf (l : List Tk) (g : List KT → PR) (s : RS) : PR := match s with
  | .on k => g (leftT l k)
  | .off e m => .bad e m
def stOf (l : List Tk) (r : PR) : RS := match r with
  | .ok _ t => .on (l.length - t.length)
  | .bad e m => .off e m

/-- The state at block pb. -/
def RsB (w : World) (pb tb to c : Nat) (l : List Tk) (k : Nat) (bad deep : Bool) : Prop := Blk w pb 56 #[.slice (some ⟨tb, to, none⟩) l.length c, .int .i64 (k : Int), .bool bad, .bool deep]
def RsI (l : List Tk) (s : RS) (k : Nat) (bad deep : Bool) : Prop := match s with
  | .on k' => k = k' ∧ bad = false ∧ deep = false
  | .off e m => bad = true ∧ ((e = 2 ∧ deep = true ∧ m = 0) ∨ (e = 41 ∧ deep = false ∧ m = l.length - k))
structure RsSt (w : World) (pb tb to c : Nat) (l : List Tk) (s : RS) (k : Nat) (bad deep : Bool) : Prop where
  p : RsB w pb tb to c l k bad deep
  i : RsI l s k bad deep
  t : TkRow w tb to l
  ne : tb ≠ pb
  k : k < l.length
  c : l.length ≤ c
section
variable {w w' : World} {pb tb to c k k' : Nat} {l : List Tk} {s s' : RS} {bad deep bad' deep' : Bool}
theorem RsSt.step (h : RsSt w pb tb to c l s k bad deep) (hg : w.grownBy w' (some pb)) (hp : RsB w' pb tb to c l k' bad' deep') (hi : RsI l s' k' bad' deep') (hk : k' < l.length) : RsSt w' pb tb to c l s' k' bad' deep' :=
  ⟨hp, hi, h.t.keep (hg.block tb h.t.lt (by simp; exact h.ne)) hg.size, h.ne, hk, h.c⟩
theorem RsSt.after (h : RsSt w pb tb to c l s k bad deep) (hb : Below w.heap.size w w') : RsSt w' pb tb to c l s k bad deep :=
  ⟨Blk.below h.p hb (Blk.lt h.p), h.i, h.t.keep (hb.block tb h.t.lt) hb.size, h.ne, h.k, h.c⟩
theorem RsSt.far (h : RsSt w pb tb to c l s k bad deep) {b j : Nat} (h1 : b ≠ pb) (h2 : b ≠ tb) (v : Value) : RsSt (w.setCell ⟨b, j, none⟩ v) pb tb to c l s k bad deep :=
  ⟨Blk.far h.p (p := ⟨b, j, none⟩) (Ne.symm h1) v, h.i, h.t.keep (Below.heap_setCell w ⟨b, j, none⟩ v tb (Ne.symm h2)) (by simp [World.setCell]), h.ne, h.k, h.c⟩
theorem RsSt.lt (h : RsSt w pb tb to c l s k bad deep) : pb < w.heap.size := Blk.lt h.p
end

/-- What a call leaves: some formula, and the state. -/
structure RsOk (w : World) (pb tb to c : Nat) (l : List Tk) (k0 : Nat) (r : PR) (f : Fm) (A : Option Addr) (cc : Nat) (k : Nat) (bad deep : Bool) (w' : World) : Prop where
  km : k0 ≤ k
  g : w.grownBy w' (some pb)
  s : RsSt w' pb tb to c l (stOf l r) k bad deep
  v : FmVQ w' (fun b => w.heap.size ≤ b ∧ b < w'.heap.size) f A cc
  f : ∀ f' t, r = .ok f' t → f = f' ∧ t = leftT l k
def RPost (w : World) (pb tb to c : Nat) (l : List Tk) (k0 : Nat) (r : PR) (e : Ending) (w' : World) : Prop := ∃ f A cc k bad deep, e = .returned (fmA f A cc) ∧ RsOk w pb tb to c l k0 r f A cc k bad deep w'

theorem stOf_left {l : List Tk} {f : Fm} {k : Nat} (hk : k < l.length) : stOf l (.ok f (leftT l k)) = .on k := by
  show RS.on (l.length - (leftT l k).length) = _
  rw [leftT_len]
  congr 1
  omega

section
variable {w : World} {pb tb to c k : Nat} {l : List Tk} {s : RS} {bad deep : Bool}
set_option maxRecDepth 100000 in
set_option maxHeartbeats 4000000 in
theorem ris_any (hS : RsSt w pb tb to c l s k bad deep) (x : List UInt8) : Calls Tryz.prog 42 #[.pointer (some ⟨pb, 0, none⟩), .string ⟨x.toArray⟩] w (Ret w (.bool (isS l s x))) := by
  obtain ⟨t, ht⟩ : ∃ t, l[k]? = some t := ⟨_, List.getElem?_eq_getElem hS.k⟩
  have p0 := Blk.cell hS.p 0
  have p1 := Blk.cell hS.p 1
  have p2 := Blk.cell hS.p 2
  have t0 := hS.t.kind k t ht
  have t1 := hS.t.text k t ht
  have hlk := hS.k
  have hlk' : (k : Int) < (l.length : Int) := by omega
  have hmul : to + k * 3 = to + 3 * k := by omega
  have hmul1 : to + k * 3 + 1 = to + 3 * k + 1 := by omega
  cases bad with
  | true =>
    have HI : Hid (isS l s x = false) := Lib.hid (by
      have := hS.i
      cases s with
      | on k' => exact absurd this.2.1 (by decide)
      | off e m => rfl)
    clear hS ht
    go_enter Tryz.func42, Tryz.ntmps42
    go_wp2_with fail
    refine wp_region_noPanic ?_
    refine wp_region_seq (fun W => W.cell? ⟨pb, 0, none⟩ = some (.slice (some ⟨tb, to, none⟩) l.length c) ∧ W.cell? ⟨pb, 1, none⟩ = some (.int .i64 (k : Int)) ∧ W.cell? ⟨pb, 2, none⟩ = some (.bool true) ∧ W.cell? ⟨tb, to + 3 * k, none⟩ = some (.int .i64 t.kind) ∧ W.cell? ⟨tb, to + 3 * k + 1, none⟩ = some (.string ⟨t.text.toArray⟩)) [0, 1, 2, 3, 4, 5, 6, 7, 8, 9, 10, 11, 12, 13, 14, 15, 16, 17, 18, 19, 20, 21, 22, 23, 24, 25, 26, 27, 28, 29, 30, 31, 32, 33, 34] [0, 1, 2, 3, 4, 5, 6, 7, 8, 9, 10, 11, 12, 13, 14, 15, 16, 17, 18, 19, 20, 21, 22, 23, 24, 25, 26, 27, 28, 29, 30, 31, 32, 33, 34] [] (by kernel_rfl) (by kernel_rfl) rfl (by kernel_rfl) (by kernel_rfl) (fun _ _ _ _ _ h => h) ?_ (fun hSS => ?_)
    · exact ⟨p0, p1, p2, t0, t1⟩
    clear hSS
    (refine wpSeq_mov rfl rfl ?_; intro o ho; simp only [List.getElem?_toArray, List.getElem?_cons_zero, List.getElem?_cons_succ, Option.some.injEq] at ho; subst ho; refine ⟨?_, Or.inl ⟨by rfl, fun W hSW => ?_⟩, ?_⟩; rotate_left; (focus (go_simp; first | done | with_reducible rfl)); try simp only [Act.put, List.setIfInBounds_toArray, List.set_cons_zero, List.set_cons_succ])
    (refine wpSeq_mov rfl rfl ?_; intro o ho; simp only [List.getElem?_toArray, List.getElem?_cons_zero, List.getElem?_cons_succ, Option.some.injEq] at ho; subst ho; refine ⟨?_, Or.inl ⟨by rfl, fun W hSW => ?_⟩, ?_⟩; rotate_left; (focus (go_simp; first | done | with_reducible rfl)); try simp only [Act.put, List.setIfInBounds_toArray, List.set_cons_zero, List.set_cons_succ])
    (refine wpSeq_mov rfl rfl ?_; intro o ho; simp only [List.getElem?_toArray, List.getElem?_cons_zero, List.getElem?_cons_succ, Option.some.injEq] at ho; subst ho; refine ⟨?_, Or.inl ⟨by rfl, fun W hSW => ?_⟩, ?_⟩; rotate_left; (focus (go_simp; first | done | with_reducible rfl)); try simp only [Act.put, List.setIfInBounds_toArray, List.set_cons_zero, List.set_cons_succ])
    (refine wpSeq_mov rfl rfl ?_; intro o ho; simp only [List.getElem?_toArray, List.getElem?_cons_zero, List.getElem?_cons_succ, Option.some.injEq] at ho; subst ho; refine ⟨?_, Or.inl ⟨by rfl, fun W hSW => ?_⟩, ?_⟩; rotate_left; (focus (go_simp; first | done | with_reducible rfl)); try simp only [Act.put, List.setIfInBounds_toArray, List.set_cons_zero, List.set_cons_succ])
    (refine wpSeq_mov rfl rfl ?_; intro o ho; simp only [List.getElem?_toArray, List.getElem?_cons_zero, List.getElem?_cons_succ, Option.some.injEq] at ho; subst ho; refine ⟨?_, Or.inl ⟨by rfl, fun W hSW => ?_⟩, ?_⟩; rotate_left; (focus (go_simp; first | done | with_reducible rfl)); try simp only [Act.put, List.setIfInBounds_toArray, List.set_cons_zero, List.set_cons_succ])
    (refine wpSeq_mov rfl rfl ?_; intro o ho; simp only [List.getElem?_toArray, List.getElem?_cons_zero, List.getElem?_cons_succ, Option.some.injEq] at ho; subst ho; refine ⟨?_, Or.inl ⟨by rfl, fun W hSW => ?_⟩, ?_⟩; rotate_left; (focus (go_simp; first | done | with_reducible rfl)); try simp only [Act.put, List.setIfInBounds_toArray, List.set_cons_zero, List.set_cons_succ])
    (refine wpSeq_mov rfl rfl ?_; intro o ho; simp only [List.getElem?_toArray, List.getElem?_cons_zero, List.getElem?_cons_succ, Option.some.injEq] at ho; subst ho; refine ⟨undef, Or.inr ⟨by rfl, rfl⟩, ?_⟩; try simp only [Act.put, List.setIfInBounds_toArray, List.set_cons_zero, List.set_cons_succ])
    (refine wpSeq_mov rfl rfl ?_; intro o ho; simp only [List.getElem?_toArray, List.getElem?_cons_zero, List.getElem?_cons_succ, Option.some.injEq] at ho; subst ho; refine ⟨undef, Or.inr ⟨by rfl, rfl⟩, ?_⟩; try simp only [Act.put, List.setIfInBounds_toArray, List.set_cons_zero, List.set_cons_succ])
    (refine wpSeq_mov rfl rfl ?_; intro o ho; simp only [List.getElem?_toArray, List.getElem?_cons_zero, List.getElem?_cons_succ, Option.some.injEq] at ho; subst ho; refine ⟨undef, Or.inr ⟨by rfl, rfl⟩, ?_⟩; try simp only [Act.put, List.setIfInBounds_toArray, List.set_cons_zero, List.set_cons_succ])
    (refine wpSeq_mov rfl rfl ?_; intro o ho; simp only [List.getElem?_toArray, List.getElem?_cons_zero, List.getElem?_cons_succ, Option.some.injEq] at ho; subst ho; refine ⟨undef, Or.inr ⟨by rfl, rfl⟩, ?_⟩; try simp only [Act.put, List.setIfInBounds_toArray, List.set_cons_zero, List.set_cons_succ])
    (refine wpSeq_mov rfl rfl ?_; intro o ho; simp only [List.getElem?_toArray, List.getElem?_cons_zero, List.getElem?_cons_succ, Option.some.injEq] at ho; subst ho; refine ⟨undef, Or.inr ⟨by rfl, rfl⟩, ?_⟩; try simp only [Act.put, List.setIfInBounds_toArray, List.set_cons_zero, List.set_cons_succ])
    (refine wpSeq_mov rfl rfl ?_; intro o ho; simp only [List.getElem?_toArray, List.getElem?_cons_zero, List.getElem?_cons_succ, Option.some.injEq] at ho; subst ho; refine ⟨undef, Or.inr ⟨by rfl, rfl⟩, ?_⟩; try simp only [Act.put, List.setIfInBounds_toArray, List.set_cons_zero, List.set_cons_succ])
    (refine wpSeq_mov rfl rfl ?_; intro o ho; simp only [List.getElem?_toArray, List.getElem?_cons_zero, List.getElem?_cons_succ, Option.some.injEq] at ho; subst ho; refine ⟨undef, Or.inr ⟨by rfl, rfl⟩, ?_⟩; try simp only [Act.put, List.setIfInBounds_toArray, List.set_cons_zero, List.set_cons_succ])
    (refine wpSeq_mov rfl rfl ?_; intro o ho; simp only [List.getElem?_toArray, List.getElem?_cons_zero, List.getElem?_cons_succ, Option.some.injEq] at ho; subst ho; refine ⟨undef, Or.inr ⟨by rfl, rfl⟩, ?_⟩; try simp only [Act.put, List.setIfInBounds_toArray, List.set_cons_zero, List.set_cons_succ])
    (refine wpSeq_mov rfl rfl ?_; intro o ho; simp only [List.getElem?_toArray, List.getElem?_cons_zero, List.getElem?_cons_succ, Option.some.injEq] at ho; subst ho; refine ⟨undef, Or.inr ⟨by rfl, rfl⟩, ?_⟩; try simp only [Act.put, List.setIfInBounds_toArray, List.set_cons_zero, List.set_cons_succ])
    (refine wpSeq_mov rfl rfl ?_; intro o ho; simp only [List.getElem?_toArray, List.getElem?_cons_zero, List.getElem?_cons_succ, Option.some.injEq] at ho; subst ho; refine ⟨undef, Or.inr ⟨by rfl, rfl⟩, ?_⟩; try simp only [Act.put, List.setIfInBounds_toArray, List.set_cons_zero, List.set_cons_succ])
    (refine wpSeq_mov rfl rfl ?_; intro o ho; simp only [List.getElem?_toArray, List.getElem?_cons_zero, List.getElem?_cons_succ, Option.some.injEq] at ho; subst ho; refine ⟨undef, Or.inr ⟨by rfl, rfl⟩, ?_⟩; try simp only [Act.put, List.setIfInBounds_toArray, List.set_cons_zero, List.set_cons_succ])
    (refine wpSeq_mov rfl rfl ?_; intro o ho; simp only [List.getElem?_toArray, List.getElem?_cons_zero, List.getElem?_cons_succ, Option.some.injEq] at ho; subst ho; refine ⟨undef, Or.inr ⟨by rfl, rfl⟩, ?_⟩; try simp only [Act.put, List.setIfInBounds_toArray, List.set_cons_zero, List.set_cons_succ])
    (refine wpSeq_mov rfl rfl ?_; intro o ho; simp only [List.getElem?_toArray, List.getElem?_cons_zero, List.getElem?_cons_succ, Option.some.injEq] at ho; subst ho; refine ⟨?_, Or.inl ⟨by rfl, fun W hSW => ?_⟩, ?_⟩; rotate_left; (focus (go_simp; first | done | with_reducible rfl)); try simp only [Act.put, List.setIfInBounds_toArray, List.set_cons_zero, List.set_cons_succ])
    (refine wpSeq_mov rfl rfl ?_; intro o ho; simp only [List.getElem?_toArray, List.getElem?_cons_zero, List.getElem?_cons_succ, Option.some.injEq] at ho; subst ho; refine ⟨?_, Or.inl ⟨by rfl, fun W hSW => ?_⟩, ?_⟩; rotate_left; (focus (go_simp; first | done | with_reducible rfl)); try simp only [Act.put, List.setIfInBounds_toArray, List.set_cons_zero, List.set_cons_succ])
    (refine wpSeq_mov rfl rfl ?_; intro o ho; simp only [List.getElem?_toArray, List.getElem?_cons_zero, List.getElem?_cons_succ, Option.some.injEq] at ho; subst ho; refine ⟨undef, Or.inr ⟨by rfl, rfl⟩, ?_⟩; try simp only [Act.put, List.setIfInBounds_toArray, List.set_cons_zero, List.set_cons_succ])
    (refine wpSeq_mov rfl rfl ?_; intro o ho; simp only [List.getElem?_toArray, List.getElem?_cons_zero, List.getElem?_cons_succ, Option.some.injEq] at ho; subst ho; refine ⟨undef, Or.inr ⟨by rfl, rfl⟩, ?_⟩; try simp only [Act.put, List.setIfInBounds_toArray, List.set_cons_zero, List.set_cons_succ])
    (refine wpSeq_mov rfl rfl ?_; intro o ho; simp only [List.getElem?_toArray, List.getElem?_cons_zero, List.getElem?_cons_succ, Option.some.injEq] at ho; subst ho; refine ⟨undef, Or.inr ⟨by rfl, rfl⟩, ?_⟩; try simp only [Act.put, List.setIfInBounds_toArray, List.set_cons_zero, List.set_cons_succ])
    (refine wpSeq_mov rfl rfl ?_; intro o ho; simp only [List.getElem?_toArray, List.getElem?_cons_zero, List.getElem?_cons_succ, Option.some.injEq] at ho; subst ho; refine ⟨undef, Or.inr ⟨by rfl, rfl⟩, ?_⟩; try simp only [Act.put, List.setIfInBounds_toArray, List.set_cons_zero, List.set_cons_succ])
    (refine wpSeq_mov rfl rfl ?_; intro o ho; simp only [List.getElem?_toArray, List.getElem?_cons_zero, List.getElem?_cons_succ, Option.some.injEq] at ho; subst ho; refine ⟨undef, Or.inr ⟨by rfl, rfl⟩, ?_⟩; try simp only [Act.put, List.setIfInBounds_toArray, List.set_cons_zero, List.set_cons_succ])
    (refine wpSeq_mov rfl rfl ?_; intro o ho; simp only [List.getElem?_toArray, List.getElem?_cons_zero, List.getElem?_cons_succ, Option.some.injEq] at ho; subst ho; refine ⟨undef, Or.inr ⟨by rfl, rfl⟩, ?_⟩; try simp only [Act.put, List.setIfInBounds_toArray, List.set_cons_zero, List.set_cons_succ])
    (refine wpSeq_mov rfl rfl ?_; intro o ho; simp only [List.getElem?_toArray, List.getElem?_cons_zero, List.getElem?_cons_succ, Option.some.injEq] at ho; subst ho; refine ⟨undef, Or.inr ⟨by rfl, rfl⟩, ?_⟩; try simp only [Act.put, List.setIfInBounds_toArray, List.set_cons_zero, List.set_cons_succ])
    (refine wpSeq_mov rfl rfl ?_; intro o ho; simp only [List.getElem?_toArray, List.getElem?_cons_zero, List.getElem?_cons_succ, Option.some.injEq] at ho; subst ho; refine ⟨undef, Or.inr ⟨by rfl, rfl⟩, ?_⟩; try simp only [Act.put, List.setIfInBounds_toArray, List.set_cons_zero, List.set_cons_succ])
    (refine wpSeq_mov rfl rfl ?_; intro o ho; simp only [List.getElem?_toArray, List.getElem?_cons_zero, List.getElem?_cons_succ, Option.some.injEq] at ho; subst ho; refine ⟨undef, Or.inr ⟨by rfl, rfl⟩, ?_⟩; try simp only [Act.put, List.setIfInBounds_toArray, List.set_cons_zero, List.set_cons_succ])
    (refine wpSeq_mov rfl rfl ?_; intro o ho; simp only [List.getElem?_toArray, List.getElem?_cons_zero, List.getElem?_cons_succ, Option.some.injEq] at ho; subst ho; refine ⟨undef, Or.inr ⟨by rfl, rfl⟩, ?_⟩; try simp only [Act.put, List.setIfInBounds_toArray, List.set_cons_zero, List.set_cons_succ])
    (refine wpSeq_mov rfl rfl ?_; intro o ho; simp only [List.getElem?_toArray, List.getElem?_cons_zero, List.getElem?_cons_succ, Option.some.injEq] at ho; subst ho; refine ⟨undef, Or.inr ⟨by rfl, rfl⟩, ?_⟩; try simp only [Act.put, List.setIfInBounds_toArray, List.set_cons_zero, List.set_cons_succ])
    (refine wpSeq_mov rfl rfl ?_; intro o ho; simp only [List.getElem?_toArray, List.getElem?_cons_zero, List.getElem?_cons_succ, Option.some.injEq] at ho; subst ho; refine ⟨undef, Or.inr ⟨by rfl, rfl⟩, ?_⟩; try simp only [Act.put, List.setIfInBounds_toArray, List.set_cons_zero, List.set_cons_succ])
    (refine wpSeq_mov rfl rfl ?_; intro o ho; simp only [List.getElem?_toArray, List.getElem?_cons_zero, List.getElem?_cons_succ, Option.some.injEq] at ho; subst ho; refine ⟨undef, Or.inr ⟨by rfl, rfl⟩, ?_⟩; try simp only [Act.put, List.setIfInBounds_toArray, List.set_cons_zero, List.set_cons_succ])
    (refine wpSeq_mov rfl rfl ?_; intro o ho; simp only [List.getElem?_toArray, List.getElem?_cons_zero, List.getElem?_cons_succ, Option.some.injEq] at ho; subst ho; refine ⟨?_, Or.inl ⟨by rfl, fun W hSW => ?_⟩, ?_⟩; rotate_left; (focus (go_simp; first | done | with_reducible rfl)); try simp only [Act.put, List.setIfInBounds_toArray, List.set_cons_zero, List.set_cons_succ])
    (refine wpSeq_mov rfl rfl ?_; intro o ho; simp only [List.getElem?_toArray, List.getElem?_cons_zero, List.getElem?_cons_succ, Option.some.injEq] at ho; subst ho; refine ⟨?_, Or.inl ⟨by rfl, fun W hSW => ?_⟩, ?_⟩; rotate_left; (focus (go_simp; first | done | with_reducible rfl)); try simp only [Act.put, List.setIfInBounds_toArray, List.set_cons_zero, List.set_cons_succ])
    refine wpSeq_done ?_
    go_wp2_with fail
    go_ret
    rw [HI.out]
    exact Ret.mk rfl (stepD1 w)
  | false =>
    have HI0 : Hid (isS l s x = (!decide (t.kind = 0) && decide (t.text = x))) := Lib.hid (by
      have := hS.i
      cases s with
      | on k' =>
        obtain ⟨rfl, _⟩ := this
        show takes x (leftT l k) = _
        rw [leftT_at ht]
        rfl
      | off e m => exact absurd this.1 (by decide))
    by_cases hk : t.kind = 0
    · have hk0 : (t.kind == 0) = true := by simp [hk]
      have hk1 : (t.kind != 0) = false := by simp [hk]
      have HI : Hid (isS l s x = false) := Lib.hid (by rw [HI0.out, hk]; rfl)
      clear hS ht hk
      go_enter Tryz.func42, Tryz.ntmps42
      go_wp2_with fail
      refine wp_region_noPanic ?_
      refine wp_region_seq (fun W => W.cell? ⟨pb, 0, none⟩ = some (.slice (some ⟨tb, to, none⟩) l.length c) ∧ W.cell? ⟨pb, 1, none⟩ = some (.int .i64 (k : Int)) ∧ W.cell? ⟨pb, 2, none⟩ = some (.bool false) ∧ W.cell? ⟨tb, to + 3 * k, none⟩ = some (.int .i64 t.kind) ∧ W.cell? ⟨tb, to + 3 * k + 1, none⟩ = some (.string ⟨t.text.toArray⟩)) [0, 1, 2, 3, 4, 5, 6, 7, 8, 9, 10, 11, 12, 13, 14, 15, 16, 17, 18, 19, 20, 21, 22, 23, 24, 25, 26, 27, 28, 29, 30, 31, 32, 33, 34] [0, 1, 2, 3, 4, 5, 6, 7, 8, 9, 10, 11, 12, 13, 14, 15, 16, 17, 18, 19, 20, 21, 22, 23, 24, 25, 26, 27, 28, 29, 30, 31, 32, 33, 34] [] (by kernel_rfl) (by kernel_rfl) rfl (by kernel_rfl) (by kernel_rfl) (fun _ _ _ _ _ h => h) ?_ (fun hSS => ?_)
      · exact ⟨p0, p1, p2, t0, t1⟩
      clear hSS
      (refine wpSeq_mov rfl rfl ?_; intro o ho; simp only [List.getElem?_toArray, List.getElem?_cons_zero, List.getElem?_cons_succ, Option.some.injEq] at ho; subst ho; refine ⟨?_, Or.inl ⟨by rfl, fun W hSW => ?_⟩, ?_⟩; rotate_left; (focus (go_simp; first | done | with_reducible rfl)); try simp only [Act.put, List.setIfInBounds_toArray, List.set_cons_zero, List.set_cons_succ])
      (refine wpSeq_mov rfl rfl ?_; intro o ho; simp only [List.getElem?_toArray, List.getElem?_cons_zero, List.getElem?_cons_succ, Option.some.injEq] at ho; subst ho; refine ⟨?_, Or.inl ⟨by rfl, fun W hSW => ?_⟩, ?_⟩; rotate_left; (focus (go_simp; first | done | with_reducible rfl)); try simp only [Act.put, List.setIfInBounds_toArray, List.set_cons_zero, List.set_cons_succ])
      (refine wpSeq_mov rfl rfl ?_; intro o ho; simp only [List.getElem?_toArray, List.getElem?_cons_zero, List.getElem?_cons_succ, Option.some.injEq] at ho; subst ho; refine ⟨?_, Or.inl ⟨by rfl, fun W hSW => ?_⟩, ?_⟩; rotate_left; (focus (go_simp; first | done | with_reducible rfl)); try simp only [Act.put, List.setIfInBounds_toArray, List.set_cons_zero, List.set_cons_succ])
      (refine wpSeq_mov rfl rfl ?_; intro o ho; simp only [List.getElem?_toArray, List.getElem?_cons_zero, List.getElem?_cons_succ, Option.some.injEq] at ho; subst ho; refine ⟨?_, Or.inl ⟨by rfl, fun W hSW => ?_⟩, ?_⟩; rotate_left; (focus (go_simp; first | done | with_reducible rfl)); try simp only [Act.put, List.setIfInBounds_toArray, List.set_cons_zero, List.set_cons_succ])
      (refine wpSeq_mov rfl rfl ?_; intro o ho; simp only [List.getElem?_toArray, List.getElem?_cons_zero, List.getElem?_cons_succ, Option.some.injEq] at ho; subst ho; refine ⟨?_, Or.inl ⟨by rfl, fun W hSW => ?_⟩, ?_⟩; rotate_left; (focus (go_simp; first | done | with_reducible rfl)); try simp only [Act.put, List.setIfInBounds_toArray, List.set_cons_zero, List.set_cons_succ])
      (refine wpSeq_mov rfl rfl ?_; intro o ho; simp only [List.getElem?_toArray, List.getElem?_cons_zero, List.getElem?_cons_succ, Option.some.injEq] at ho; subst ho; refine ⟨?_, Or.inl ⟨by rfl, fun W hSW => ?_⟩, ?_⟩; rotate_left; (focus (go_simp; first | done | with_reducible rfl)); try simp only [Act.put, List.setIfInBounds_toArray, List.set_cons_zero, List.set_cons_succ])
      (refine wpSeq_mov rfl rfl ?_; intro o ho; simp only [List.getElem?_toArray, List.getElem?_cons_zero, List.getElem?_cons_succ, Option.some.injEq] at ho; subst ho; refine ⟨?_, Or.inl ⟨by rfl, fun W hSW => ?_⟩, ?_⟩; rotate_left; (focus (go_simp; first | done | with_reducible rfl)); try simp only [Act.put, List.setIfInBounds_toArray, List.set_cons_zero, List.set_cons_succ])
      (refine wpSeq_mov rfl rfl ?_; intro o ho; simp only [List.getElem?_toArray, List.getElem?_cons_zero, List.getElem?_cons_succ, Option.some.injEq] at ho; subst ho; refine ⟨?_, Or.inl ⟨by rfl, fun W hSW => ?_⟩, ?_⟩; rotate_left; (focus (go_simp; first | done | with_reducible rfl)); try simp only [Act.put, List.setIfInBounds_toArray, List.set_cons_zero, List.set_cons_succ])
      (refine wpSeq_mov rfl rfl ?_; intro o ho; simp only [List.getElem?_toArray, List.getElem?_cons_zero, List.getElem?_cons_succ, Option.some.injEq] at ho; subst ho; refine ⟨?_, Or.inl ⟨by rfl, fun W hSW => ?_⟩, ?_⟩; rotate_left; (focus (go_simp; first | done | with_reducible rfl)); try simp only [Act.put, List.setIfInBounds_toArray, List.set_cons_zero, List.set_cons_succ])
      (refine wpSeq_mov rfl rfl ?_; intro o ho; simp only [List.getElem?_toArray, List.getElem?_cons_zero, List.getElem?_cons_succ, Option.some.injEq] at ho; subst ho; refine ⟨?_, Or.inl ⟨by rfl, fun W hSW => ?_⟩, ?_⟩; rotate_left; (focus (go_simp; first | done | with_reducible rfl)); try simp only [Act.put, List.setIfInBounds_toArray, List.set_cons_zero, List.set_cons_succ])
      (refine wpSeq_mov rfl rfl ?_; intro o ho; simp only [List.getElem?_toArray, List.getElem?_cons_zero, List.getElem?_cons_succ, Option.some.injEq] at ho; subst ho; refine ⟨?_, Or.inl ⟨by rfl, fun W hSW => ?_⟩, ?_⟩; rotate_left; (focus (go_simp; first | done | with_reducible rfl)); try simp only [Act.put, List.setIfInBounds_toArray, List.set_cons_zero, List.set_cons_succ])
      (refine wpSeq_mov rfl rfl ?_; intro o ho; simp only [List.getElem?_toArray, List.getElem?_cons_zero, List.getElem?_cons_succ, Option.some.injEq] at ho; subst ho; refine ⟨?_, Or.inl ⟨by rfl, fun W hSW => ?_⟩, ?_⟩; rotate_left; (focus (go_simp; first | done | with_reducible rfl)); try simp only [Act.put, List.setIfInBounds_toArray, List.set_cons_zero, List.set_cons_succ])
      (refine wpSeq_mov rfl rfl ?_; intro o ho; simp only [List.getElem?_toArray, List.getElem?_cons_zero, List.getElem?_cons_succ, Option.some.injEq] at ho; subst ho; refine ⟨?_, Or.inl ⟨by rfl, fun W hSW => ?_⟩, ?_⟩; rotate_left; (focus (go_simp; first | done | with_reducible rfl)); try simp only [Act.put, List.setIfInBounds_toArray, List.set_cons_zero, List.set_cons_succ])
      (refine wpSeq_mov rfl rfl ?_; intro o ho; simp only [List.getElem?_toArray, List.getElem?_cons_zero, List.getElem?_cons_succ, Option.some.injEq] at ho; subst ho; refine ⟨?_, Or.inl ⟨by rfl, fun W hSW => ?_⟩, ?_⟩; rotate_left; (focus (go_simp; first | done | with_reducible rfl)); try simp only [Act.put, List.setIfInBounds_toArray, List.set_cons_zero, List.set_cons_succ])
      (refine wpSeq_mov rfl rfl ?_; intro o ho; simp only [List.getElem?_toArray, List.getElem?_cons_zero, List.getElem?_cons_succ, Option.some.injEq] at ho; subst ho; refine ⟨?_, Or.inl ⟨by rfl, fun W hSW => ?_⟩, ?_⟩; rotate_left; (focus (go_simp; first | done | with_reducible rfl)); try simp only [Act.put, List.setIfInBounds_toArray, List.set_cons_zero, List.set_cons_succ])
      (refine wpSeq_mov rfl rfl ?_; intro o ho; simp only [List.getElem?_toArray, List.getElem?_cons_zero, List.getElem?_cons_succ, Option.some.injEq] at ho; subst ho; refine ⟨?_, Or.inl ⟨by rfl, fun W hSW => ?_⟩, ?_⟩; rotate_left; (focus (go_simp; first | done | with_reducible rfl)); try simp only [Act.put, List.setIfInBounds_toArray, List.set_cons_zero, List.set_cons_succ])
      (refine wpSeq_mov rfl rfl ?_; intro o ho; simp only [List.getElem?_toArray, List.getElem?_cons_zero, List.getElem?_cons_succ, Option.some.injEq] at ho; subst ho; refine ⟨?_, Or.inl ⟨by rfl, fun W hSW => ?_⟩, ?_⟩; rotate_left; (focus (go_simp; first | done | with_reducible rfl)); try simp only [Act.put, List.setIfInBounds_toArray, List.set_cons_zero, List.set_cons_succ])
      (refine wpSeq_mov rfl rfl ?_; intro o ho; simp only [List.getElem?_toArray, List.getElem?_cons_zero, List.getElem?_cons_succ, Option.some.injEq] at ho; subst ho; refine ⟨?_, Or.inl ⟨by rfl, fun W hSW => ?_⟩, ?_⟩; rotate_left; (focus (go_simp; first | done | with_reducible rfl)); try simp only [Act.put, List.setIfInBounds_toArray, List.set_cons_zero, List.set_cons_succ])
      (refine wpSeq_mov rfl rfl ?_; intro o ho; simp only [List.getElem?_toArray, List.getElem?_cons_zero, List.getElem?_cons_succ, Option.some.injEq] at ho; subst ho; refine ⟨?_, Or.inl ⟨by rfl, fun W hSW => ?_⟩, ?_⟩; rotate_left; (focus (go_simp; first | done | with_reducible rfl)); try simp only [Act.put, List.setIfInBounds_toArray, List.set_cons_zero, List.set_cons_succ])
      (refine wpSeq_mov rfl rfl ?_; intro o ho; simp only [List.getElem?_toArray, List.getElem?_cons_zero, List.getElem?_cons_succ, Option.some.injEq] at ho; subst ho; refine ⟨?_, Or.inl ⟨by rfl, fun W hSW => ?_⟩, ?_⟩; rotate_left; (focus (go_simp; first | done | with_reducible rfl)); try simp only [Act.put, List.setIfInBounds_toArray, List.set_cons_zero, List.set_cons_succ])
      (refine wpSeq_mov rfl rfl ?_; intro o ho; simp only [List.getElem?_toArray, List.getElem?_cons_zero, List.getElem?_cons_succ, Option.some.injEq] at ho; subst ho; refine ⟨undef, Or.inr ⟨by rfl, rfl⟩, ?_⟩; try simp only [Act.put, List.setIfInBounds_toArray, List.set_cons_zero, List.set_cons_succ])
      (refine wpSeq_mov rfl rfl ?_; intro o ho; simp only [List.getElem?_toArray, List.getElem?_cons_zero, List.getElem?_cons_succ, Option.some.injEq] at ho; subst ho; refine ⟨undef, Or.inr ⟨by rfl, rfl⟩, ?_⟩; try simp only [Act.put, List.setIfInBounds_toArray, List.set_cons_zero, List.set_cons_succ])
      (refine wpSeq_mov rfl rfl ?_; intro o ho; simp only [List.getElem?_toArray, List.getElem?_cons_zero, List.getElem?_cons_succ, Option.some.injEq] at ho; subst ho; refine ⟨undef, Or.inr ⟨by rfl, rfl⟩, ?_⟩; try simp only [Act.put, List.setIfInBounds_toArray, List.set_cons_zero, List.set_cons_succ])
      (refine wpSeq_mov rfl rfl ?_; intro o ho; simp only [List.getElem?_toArray, List.getElem?_cons_zero, List.getElem?_cons_succ, Option.some.injEq] at ho; subst ho; refine ⟨undef, Or.inr ⟨by rfl, rfl⟩, ?_⟩; try simp only [Act.put, List.setIfInBounds_toArray, List.set_cons_zero, List.set_cons_succ])
      (refine wpSeq_mov rfl rfl ?_; intro o ho; simp only [List.getElem?_toArray, List.getElem?_cons_zero, List.getElem?_cons_succ, Option.some.injEq] at ho; subst ho; refine ⟨undef, Or.inr ⟨by rfl, rfl⟩, ?_⟩; try simp only [Act.put, List.setIfInBounds_toArray, List.set_cons_zero, List.set_cons_succ])
      (refine wpSeq_mov rfl rfl ?_; intro o ho; simp only [List.getElem?_toArray, List.getElem?_cons_zero, List.getElem?_cons_succ, Option.some.injEq] at ho; subst ho; refine ⟨undef, Or.inr ⟨by rfl, rfl⟩, ?_⟩; try simp only [Act.put, List.setIfInBounds_toArray, List.set_cons_zero, List.set_cons_succ])
      (refine wpSeq_mov rfl rfl ?_; intro o ho; simp only [List.getElem?_toArray, List.getElem?_cons_zero, List.getElem?_cons_succ, Option.some.injEq] at ho; subst ho; refine ⟨undef, Or.inr ⟨by rfl, rfl⟩, ?_⟩; try simp only [Act.put, List.setIfInBounds_toArray, List.set_cons_zero, List.set_cons_succ])
      (refine wpSeq_mov rfl rfl ?_; intro o ho; simp only [List.getElem?_toArray, List.getElem?_cons_zero, List.getElem?_cons_succ, Option.some.injEq] at ho; subst ho; refine ⟨undef, Or.inr ⟨by rfl, rfl⟩, ?_⟩; try simp only [Act.put, List.setIfInBounds_toArray, List.set_cons_zero, List.set_cons_succ])
      (refine wpSeq_mov rfl rfl ?_; intro o ho; simp only [List.getElem?_toArray, List.getElem?_cons_zero, List.getElem?_cons_succ, Option.some.injEq] at ho; subst ho; refine ⟨undef, Or.inr ⟨by rfl, rfl⟩, ?_⟩; try simp only [Act.put, List.setIfInBounds_toArray, List.set_cons_zero, List.set_cons_succ])
      (refine wpSeq_mov rfl rfl ?_; intro o ho; simp only [List.getElem?_toArray, List.getElem?_cons_zero, List.getElem?_cons_succ, Option.some.injEq] at ho; subst ho; refine ⟨undef, Or.inr ⟨by rfl, rfl⟩, ?_⟩; try simp only [Act.put, List.setIfInBounds_toArray, List.set_cons_zero, List.set_cons_succ])
      (refine wpSeq_mov rfl rfl ?_; intro o ho; simp only [List.getElem?_toArray, List.getElem?_cons_zero, List.getElem?_cons_succ, Option.some.injEq] at ho; subst ho; refine ⟨undef, Or.inr ⟨by rfl, rfl⟩, ?_⟩; try simp only [Act.put, List.setIfInBounds_toArray, List.set_cons_zero, List.set_cons_succ])
      (refine wpSeq_mov rfl rfl ?_; intro o ho; simp only [List.getElem?_toArray, List.getElem?_cons_zero, List.getElem?_cons_succ, Option.some.injEq] at ho; subst ho; refine ⟨undef, Or.inr ⟨by rfl, rfl⟩, ?_⟩; try simp only [Act.put, List.setIfInBounds_toArray, List.set_cons_zero, List.set_cons_succ])
      (refine wpSeq_mov rfl rfl ?_; intro o ho; simp only [List.getElem?_toArray, List.getElem?_cons_zero, List.getElem?_cons_succ, Option.some.injEq] at ho; subst ho; refine ⟨undef, Or.inr ⟨by rfl, rfl⟩, ?_⟩; try simp only [Act.put, List.setIfInBounds_toArray, List.set_cons_zero, List.set_cons_succ])
      (refine wpSeq_mov rfl rfl ?_; intro o ho; simp only [List.getElem?_toArray, List.getElem?_cons_zero, List.getElem?_cons_succ, Option.some.injEq] at ho; subst ho; refine ⟨?_, Or.inl ⟨by rfl, fun W hSW => ?_⟩, ?_⟩; rotate_left; (focus (go_simp; first | done | with_reducible rfl)); try simp only [Act.put, List.setIfInBounds_toArray, List.set_cons_zero, List.set_cons_succ])
      (refine wpSeq_mov rfl rfl ?_; intro o ho; simp only [List.getElem?_toArray, List.getElem?_cons_zero, List.getElem?_cons_succ, Option.some.injEq] at ho; subst ho; refine ⟨?_, Or.inl ⟨by rfl, fun W hSW => ?_⟩, ?_⟩; rotate_left; (focus (go_simp; first | done | with_reducible rfl)); try simp only [Act.put, List.setIfInBounds_toArray, List.set_cons_zero, List.set_cons_succ])
      refine wpSeq_done ?_
      go_wp2_with fail
      go_ret
      rw [HI.out]
      exact Ret.mk rfl (stepD1 w)
    · have hk0 : (t.kind == 0) = false := by simp [hk]
      have hk1 : (t.kind != 0) = true := by simp [hk]
      have HI : Hid (isS l s x = (t.text == x)) := Lib.hid (by rw [HI0.out, decide_eq_false hk, Bool.not_false, Bool.true_and]; rw [Bool.eq_iff_iff]; simp)
      clear hS ht hk
      go_enter Tryz.func42, Tryz.ntmps42
      go_wp2_with fail
      refine wp_region_noPanic ?_
      refine wp_region_seq (fun W => W.cell? ⟨pb, 0, none⟩ = some (.slice (some ⟨tb, to, none⟩) l.length c) ∧ W.cell? ⟨pb, 1, none⟩ = some (.int .i64 (k : Int)) ∧ W.cell? ⟨pb, 2, none⟩ = some (.bool false) ∧ W.cell? ⟨tb, to + 3 * k, none⟩ = some (.int .i64 t.kind) ∧ W.cell? ⟨tb, to + 3 * k + 1, none⟩ = some (.string ⟨t.text.toArray⟩)) [0, 1, 2, 3, 4, 5, 6, 7, 8, 9, 10, 11, 12, 13, 14, 15, 16, 17, 18, 19, 20, 21, 22, 23, 24, 25, 26, 27, 28, 29, 30, 31, 32, 33, 34] [0, 1, 2, 3, 4, 5, 6, 7, 8, 9, 10, 11, 12, 13, 14, 15, 16, 17, 18, 19, 20, 21, 22, 23, 24, 25, 26, 27, 28, 29, 30, 31, 32, 33, 34] [] (by kernel_rfl) (by kernel_rfl) rfl (by kernel_rfl) (by kernel_rfl) (fun _ _ _ _ _ h => h) ?_ (fun hSS => ?_)
      · exact ⟨p0, p1, p2, t0, t1⟩
      clear hSS
      (refine wpSeq_mov rfl rfl ?_; intro o ho; simp only [List.getElem?_toArray, List.getElem?_cons_zero, List.getElem?_cons_succ, Option.some.injEq] at ho; subst ho; refine ⟨?_, Or.inl ⟨by rfl, fun W hSW => ?_⟩, ?_⟩; rotate_left; (focus (go_simp; first | done | with_reducible rfl)); try simp only [Act.put, List.setIfInBounds_toArray, List.set_cons_zero, List.set_cons_succ])
      (refine wpSeq_mov rfl rfl ?_; intro o ho; simp only [List.getElem?_toArray, List.getElem?_cons_zero, List.getElem?_cons_succ, Option.some.injEq] at ho; subst ho; refine ⟨?_, Or.inl ⟨by rfl, fun W hSW => ?_⟩, ?_⟩; rotate_left; (focus (go_simp; first | done | with_reducible rfl)); try simp only [Act.put, List.setIfInBounds_toArray, List.set_cons_zero, List.set_cons_succ])
      (refine wpSeq_mov rfl rfl ?_; intro o ho; simp only [List.getElem?_toArray, List.getElem?_cons_zero, List.getElem?_cons_succ, Option.some.injEq] at ho; subst ho; refine ⟨?_, Or.inl ⟨by rfl, fun W hSW => ?_⟩, ?_⟩; rotate_left; (focus (go_simp; first | done | with_reducible rfl)); try simp only [Act.put, List.setIfInBounds_toArray, List.set_cons_zero, List.set_cons_succ])
      (refine wpSeq_mov rfl rfl ?_; intro o ho; simp only [List.getElem?_toArray, List.getElem?_cons_zero, List.getElem?_cons_succ, Option.some.injEq] at ho; subst ho; refine ⟨?_, Or.inl ⟨by rfl, fun W hSW => ?_⟩, ?_⟩; rotate_left; (focus (go_simp; first | done | with_reducible rfl)); try simp only [Act.put, List.setIfInBounds_toArray, List.set_cons_zero, List.set_cons_succ])
      (refine wpSeq_mov rfl rfl ?_; intro o ho; simp only [List.getElem?_toArray, List.getElem?_cons_zero, List.getElem?_cons_succ, Option.some.injEq] at ho; subst ho; refine ⟨?_, Or.inl ⟨by rfl, fun W hSW => ?_⟩, ?_⟩; rotate_left; (focus (go_simp; first | done | with_reducible rfl)); try simp only [Act.put, List.setIfInBounds_toArray, List.set_cons_zero, List.set_cons_succ])
      (refine wpSeq_mov rfl rfl ?_; intro o ho; simp only [List.getElem?_toArray, List.getElem?_cons_zero, List.getElem?_cons_succ, Option.some.injEq] at ho; subst ho; refine ⟨?_, Or.inl ⟨by rfl, fun W hSW => ?_⟩, ?_⟩; rotate_left; (focus (go_simp; first | done | with_reducible rfl)); try simp only [Act.put, List.setIfInBounds_toArray, List.set_cons_zero, List.set_cons_succ])
      (refine wpSeq_mov rfl rfl ?_; intro o ho; simp only [List.getElem?_toArray, List.getElem?_cons_zero, List.getElem?_cons_succ, Option.some.injEq] at ho; subst ho; refine ⟨?_, Or.inl ⟨by rfl, fun W hSW => ?_⟩, ?_⟩; rotate_left; (focus (go_simp; first | done | with_reducible rfl)); try simp only [Act.put, List.setIfInBounds_toArray, List.set_cons_zero, List.set_cons_succ])
      (refine wpSeq_mov rfl rfl ?_; intro o ho; simp only [List.getElem?_toArray, List.getElem?_cons_zero, List.getElem?_cons_succ, Option.some.injEq] at ho; subst ho; refine ⟨?_, Or.inl ⟨by rfl, fun W hSW => ?_⟩, ?_⟩; rotate_left; (focus (go_simp; first | done | with_reducible rfl)); try simp only [Act.put, List.setIfInBounds_toArray, List.set_cons_zero, List.set_cons_succ])
      (refine wpSeq_mov rfl rfl ?_; intro o ho; simp only [List.getElem?_toArray, List.getElem?_cons_zero, List.getElem?_cons_succ, Option.some.injEq] at ho; subst ho; refine ⟨?_, Or.inl ⟨by rfl, fun W hSW => ?_⟩, ?_⟩; rotate_left; (focus (go_simp; first | done | with_reducible rfl)); try simp only [Act.put, List.setIfInBounds_toArray, List.set_cons_zero, List.set_cons_succ])
      (refine wpSeq_mov rfl rfl ?_; intro o ho; simp only [List.getElem?_toArray, List.getElem?_cons_zero, List.getElem?_cons_succ, Option.some.injEq] at ho; subst ho; refine ⟨?_, Or.inl ⟨by rfl, fun W hSW => ?_⟩, ?_⟩; rotate_left; (focus (go_simp; first | done | with_reducible rfl)); try simp only [Act.put, List.setIfInBounds_toArray, List.set_cons_zero, List.set_cons_succ])
      (refine wpSeq_mov rfl rfl ?_; intro o ho; simp only [List.getElem?_toArray, List.getElem?_cons_zero, List.getElem?_cons_succ, Option.some.injEq] at ho; subst ho; refine ⟨?_, Or.inl ⟨by rfl, fun W hSW => ?_⟩, ?_⟩; rotate_left; (focus (go_simp; first | done | with_reducible rfl)); try simp only [Act.put, List.setIfInBounds_toArray, List.set_cons_zero, List.set_cons_succ])
      (refine wpSeq_mov rfl rfl ?_; intro o ho; simp only [List.getElem?_toArray, List.getElem?_cons_zero, List.getElem?_cons_succ, Option.some.injEq] at ho; subst ho; refine ⟨?_, Or.inl ⟨by rfl, fun W hSW => ?_⟩, ?_⟩; rotate_left; (focus (go_simp; first | done | with_reducible rfl)); try simp only [Act.put, List.setIfInBounds_toArray, List.set_cons_zero, List.set_cons_succ])
      (refine wpSeq_mov rfl rfl ?_; intro o ho; simp only [List.getElem?_toArray, List.getElem?_cons_zero, List.getElem?_cons_succ, Option.some.injEq] at ho; subst ho; refine ⟨?_, Or.inl ⟨by rfl, fun W hSW => ?_⟩, ?_⟩; rotate_left; (focus (go_simp; first | done | with_reducible rfl)); try simp only [Act.put, List.setIfInBounds_toArray, List.set_cons_zero, List.set_cons_succ])
      (refine wpSeq_mov rfl rfl ?_; intro o ho; simp only [List.getElem?_toArray, List.getElem?_cons_zero, List.getElem?_cons_succ, Option.some.injEq] at ho; subst ho; refine ⟨?_, Or.inl ⟨by rfl, fun W hSW => ?_⟩, ?_⟩; rotate_left; (focus (go_simp; first | done | with_reducible rfl)); try simp only [Act.put, List.setIfInBounds_toArray, List.set_cons_zero, List.set_cons_succ])
      (refine wpSeq_mov rfl rfl ?_; intro o ho; simp only [List.getElem?_toArray, List.getElem?_cons_zero, List.getElem?_cons_succ, Option.some.injEq] at ho; subst ho; refine ⟨?_, Or.inl ⟨by rfl, fun W hSW => ?_⟩, ?_⟩; rotate_left; (focus (go_simp; first | done | with_reducible rfl)); try simp only [Act.put, List.setIfInBounds_toArray, List.set_cons_zero, List.set_cons_succ])
      (refine wpSeq_mov rfl rfl ?_; intro o ho; simp only [List.getElem?_toArray, List.getElem?_cons_zero, List.getElem?_cons_succ, Option.some.injEq] at ho; subst ho; refine ⟨?_, Or.inl ⟨by rfl, fun W hSW => ?_⟩, ?_⟩; rotate_left; (focus (go_simp; first | done | with_reducible rfl)); try simp only [Act.put, List.setIfInBounds_toArray, List.set_cons_zero, List.set_cons_succ])
      (refine wpSeq_mov rfl rfl ?_; intro o ho; simp only [List.getElem?_toArray, List.getElem?_cons_zero, List.getElem?_cons_succ, Option.some.injEq] at ho; subst ho; refine ⟨?_, Or.inl ⟨by rfl, fun W hSW => ?_⟩, ?_⟩; rotate_left; (focus (go_simp; first | done | with_reducible rfl)); try simp only [Act.put, List.setIfInBounds_toArray, List.set_cons_zero, List.set_cons_succ])
      (refine wpSeq_mov rfl rfl ?_; intro o ho; simp only [List.getElem?_toArray, List.getElem?_cons_zero, List.getElem?_cons_succ, Option.some.injEq] at ho; subst ho; refine ⟨?_, Or.inl ⟨by rfl, fun W hSW => ?_⟩, ?_⟩; rotate_left; (focus (go_simp; first | done | with_reducible rfl)); try simp only [Act.put, List.setIfInBounds_toArray, List.set_cons_zero, List.set_cons_succ])
      (refine wpSeq_mov rfl rfl ?_; intro o ho; simp only [List.getElem?_toArray, List.getElem?_cons_zero, List.getElem?_cons_succ, Option.some.injEq] at ho; subst ho; refine ⟨?_, Or.inl ⟨by rfl, fun W hSW => ?_⟩, ?_⟩; rotate_left; (focus (go_simp; first | done | with_reducible rfl)); try simp only [Act.put, List.setIfInBounds_toArray, List.set_cons_zero, List.set_cons_succ])
      (refine wpSeq_mov rfl rfl ?_; intro o ho; simp only [List.getElem?_toArray, List.getElem?_cons_zero, List.getElem?_cons_succ, Option.some.injEq] at ho; subst ho; refine ⟨?_, Or.inl ⟨by rfl, fun W hSW => ?_⟩, ?_⟩; rotate_left; (focus (go_simp; first | done | with_reducible rfl)); try simp only [Act.put, List.setIfInBounds_toArray, List.set_cons_zero, List.set_cons_succ])
      (refine wpSeq_mov rfl rfl ?_; intro o ho; simp only [List.getElem?_toArray, List.getElem?_cons_zero, List.getElem?_cons_succ, Option.some.injEq] at ho; subst ho; refine ⟨?_, Or.inl ⟨by rfl, fun W hSW => ?_⟩, ?_⟩; rotate_left; (focus (go_simp; first | done | with_reducible rfl)); try simp only [Act.put, List.setIfInBounds_toArray, List.set_cons_zero, List.set_cons_succ])
      (refine wpSeq_mov rfl rfl ?_; intro o ho; simp only [List.getElem?_toArray, List.getElem?_cons_zero, List.getElem?_cons_succ, Option.some.injEq] at ho; subst ho; refine ⟨?_, Or.inl ⟨by rfl, fun W hSW => ?_⟩, ?_⟩; rotate_left; (focus (go_simp; first | done | with_reducible rfl)); try simp only [Act.put, List.setIfInBounds_toArray, List.set_cons_zero, List.set_cons_succ])
      (refine wpSeq_mov rfl rfl ?_; intro o ho; simp only [List.getElem?_toArray, List.getElem?_cons_zero, List.getElem?_cons_succ, Option.some.injEq] at ho; subst ho; refine ⟨?_, Or.inl ⟨by rfl, fun W hSW => ?_⟩, ?_⟩; rotate_left; (focus (go_simp; first | done | with_reducible rfl)); try simp only [Act.put, List.setIfInBounds_toArray, List.set_cons_zero, List.set_cons_succ])
      (refine wpSeq_mov rfl rfl ?_; intro o ho; simp only [List.getElem?_toArray, List.getElem?_cons_zero, List.getElem?_cons_succ, Option.some.injEq] at ho; subst ho; refine ⟨?_, Or.inl ⟨by rfl, fun W hSW => ?_⟩, ?_⟩; rotate_left; (focus (go_simp; first | done | with_reducible rfl)); try simp only [Act.put, List.setIfInBounds_toArray, List.set_cons_zero, List.set_cons_succ])
      (refine wpSeq_mov rfl rfl ?_; intro o ho; simp only [List.getElem?_toArray, List.getElem?_cons_zero, List.getElem?_cons_succ, Option.some.injEq] at ho; subst ho; refine ⟨?_, Or.inl ⟨by rfl, fun W hSW => ?_⟩, ?_⟩; rotate_left; (focus (go_simp; first | done | with_reducible rfl)); try simp only [Act.put, List.setIfInBounds_toArray, List.set_cons_zero, List.set_cons_succ])
      (refine wpSeq_mov rfl rfl ?_; intro o ho; simp only [List.getElem?_toArray, List.getElem?_cons_zero, List.getElem?_cons_succ, Option.some.injEq] at ho; subst ho; refine ⟨?_, Or.inl ⟨by rfl, fun W hSW => ?_⟩, ?_⟩; rotate_left; (focus (go_simp; first | done | with_reducible rfl)); try simp only [Act.put, List.setIfInBounds_toArray, List.set_cons_zero, List.set_cons_succ])
      (refine wpSeq_mov rfl rfl ?_; intro o ho; simp only [List.getElem?_toArray, List.getElem?_cons_zero, List.getElem?_cons_succ, Option.some.injEq] at ho; subst ho; refine ⟨?_, Or.inl ⟨by rfl, fun W hSW => ?_⟩, ?_⟩; rotate_left; (focus (go_simp; first | done | with_reducible rfl)); try simp only [Act.put, List.setIfInBounds_toArray, List.set_cons_zero, List.set_cons_succ])
      (refine wpSeq_mov rfl rfl ?_; intro o ho; simp only [List.getElem?_toArray, List.getElem?_cons_zero, List.getElem?_cons_succ, Option.some.injEq] at ho; subst ho; refine ⟨?_, Or.inl ⟨by rfl, fun W hSW => ?_⟩, ?_⟩; rotate_left; (focus (go_simp; first | done | with_reducible rfl)); try simp only [Act.put, List.setIfInBounds_toArray, List.set_cons_zero, List.set_cons_succ])
      (refine wpSeq_mov rfl rfl ?_; intro o ho; simp only [List.getElem?_toArray, List.getElem?_cons_zero, List.getElem?_cons_succ, Option.some.injEq] at ho; subst ho; refine ⟨?_, Or.inl ⟨by rfl, fun W hSW => ?_⟩, ?_⟩; rotate_left; (focus (go_simp; first | done | with_reducible rfl)); try simp only [Act.put, List.setIfInBounds_toArray, List.set_cons_zero, List.set_cons_succ])
      (refine wpSeq_mov rfl rfl ?_; intro o ho; simp only [List.getElem?_toArray, List.getElem?_cons_zero, List.getElem?_cons_succ, Option.some.injEq] at ho; subst ho; refine ⟨?_, Or.inl ⟨by rfl, fun W hSW => ?_⟩, ?_⟩; rotate_left; (focus (go_simp; first | done | with_reducible rfl)); try simp only [Act.put, List.setIfInBounds_toArray, List.set_cons_zero, List.set_cons_succ])
      (refine wpSeq_mov rfl rfl ?_; intro o ho; simp only [List.getElem?_toArray, List.getElem?_cons_zero, List.getElem?_cons_succ, Option.some.injEq] at ho; subst ho; refine ⟨?_, Or.inl ⟨by rfl, fun W hSW => ?_⟩, ?_⟩; rotate_left; (focus (go_simp; first | done | with_reducible rfl)); try simp only [Act.put, List.setIfInBounds_toArray, List.set_cons_zero, List.set_cons_succ])
      (refine wpSeq_mov rfl rfl ?_; intro o ho; simp only [List.getElem?_toArray, List.getElem?_cons_zero, List.getElem?_cons_succ, Option.some.injEq] at ho; subst ho; refine ⟨?_, Or.inl ⟨by rfl, fun W hSW => ?_⟩, ?_⟩; rotate_left; (focus (go_simp; first | done | with_reducible rfl)); try simp only [Act.put, List.setIfInBounds_toArray, List.set_cons_zero, List.set_cons_succ])
      (refine wpSeq_mov rfl rfl ?_; intro o ho; simp only [List.getElem?_toArray, List.getElem?_cons_zero, List.getElem?_cons_succ, Option.some.injEq] at ho; subst ho; refine ⟨?_, Or.inl ⟨by rfl, fun W hSW => ?_⟩, ?_⟩; rotate_left; (focus (go_simp; first | done | with_reducible rfl)); try simp only [Act.put, List.setIfInBounds_toArray, List.set_cons_zero, List.set_cons_succ])
      (refine wpSeq_mov rfl rfl ?_; intro o ho; simp only [List.getElem?_toArray, List.getElem?_cons_zero, List.getElem?_cons_succ, Option.some.injEq] at ho; subst ho; refine ⟨?_, Or.inl ⟨by rfl, fun W hSW => ?_⟩, ?_⟩; rotate_left; (focus (go_simp; first | done | with_reducible rfl)); try simp only [Act.put, List.setIfInBounds_toArray, List.set_cons_zero, List.set_cons_succ])
      (refine wpSeq_mov rfl rfl ?_; intro o ho; simp only [List.getElem?_toArray, List.getElem?_cons_zero, List.getElem?_cons_succ, Option.some.injEq] at ho; subst ho; refine ⟨?_, Or.inl ⟨by rfl, fun W hSW => ?_⟩, ?_⟩; rotate_left; (focus (go_simp; first | done | with_reducible rfl)); try simp only [Act.put, List.setIfInBounds_toArray, List.set_cons_zero, List.set_cons_succ])
      refine wpSeq_done ?_
      go_wp2_with fail
      go_ret
      rw [HI.out]
      exact Ret.mk rfl (stepD1 w)
end
end Go.Proofs.YtijecfmblddanaaGreatDoor

set_option linter.unusedVariables false
set_option linter.unusedSimpArgs false
namespace Go.Proofs.YtijecfmblddanaaGreatDoor
open Go.RowKit Go.Maps

section
variable {w : World} {pb tb to c k : Nat} {l : List Tk} {s : RS} {bad deep : Bool}
theorem isS_on {x : List UInt8} (h : isS l s x = true) (hi : RsI l s k bad deep) : s = .on k ∧ bad = false ∧ deep = false ∧ takes x (leftT l k) = true := by
  cases s with
  | on k' =>
    obtain ⟨rfl, h1, h2⟩ := hi
    exact ⟨rfl, h1, h2, h⟩
  | off e m => cases h
theorem takes_next {l : List Tk} {k : Nat} {x : List UInt8} (hT : ToksOk l) (hk : k < l.length) (h : takes x (leftT l k) = true) : k + 1 < l.length := by
  obtain ⟨t, ht⟩ : ∃ t, l[k]? = some t := ⟨_, List.getElem?_eq_getElem hk⟩
  rcases Nat.lt_or_ge (k + 1) l.length with h' | h'
  · exact h'
  · have e : k = l.length - 1 := by omega
    have := (hT.last t (by rw [← e]; exact ht)).1
    rw [leftT_at ht] at h
    have h2 : (!decide (t.kind = 0) && decide (t.text = x)) = true := h
    rw [this] at h2
    cases h2
/-- One token further. -/
theorem RsSt.next (hS : RsSt w pb tb to c l (.on k) k false false) (hk : k + 1 < l.length) : RsSt (w.setCell ⟨pb, 1, none⟩ (.int .i64 ((k : Int) + 1))) pb tb to c l (.on (k + 1)) (k + 1) false false :=
  hS.step (grown_set (World.grownBy.refl w _) _ _) (Blk.set_ hS.p 1 (.int .i64 ((k : Int) + 1))) ⟨rfl, rfl, rfl⟩ hk

def RNeedP (w : World) (pb tb to c : Nat) (l : List Tk) (s : RS) (k0 : Nat) (x : List UInt8) (e : Ending) (w' : World) : Prop := ∃ k bad deep, e = .returned (.tuple #[]) ∧ RsSt w' pb tb to c l (needS l s x) k bad deep ∧ w.grownBy w' (some pb) ∧ k0 ≤ k
set_option maxHeartbeats 2000000 in
theorem rneed_any (hT : ToksOk l) (hS : RsSt w pb tb to c l s k bad deep) (x : List UInt8) : Calls Tryz.prog 87 #[.pointer (some ⟨pb, 0, none⟩), .string ⟨x.toArray⟩] w (RNeedP w pb tb to c l s k x) := by
  have HC := Lib.hid (ris_any hS x)
  have HS := Lib.hid hS
  have hlk := hS.k
  have hmany := hT.many
  cases hi : isS l s x with
  | true =>
    obtain ⟨rfl, rfl, rfl, h4⟩ := isS_on hi hS.i
    have HK := Lib.hid (takes_next hT hlk h4)
    have HN : Hid (needS l (.on k) x = .on (k + 1)) := Lib.hid (by show (if takes x (leftT l k) then _ else _) = _; rw [if_pos h4])
    rw [hi] at HC
    clear hS hi h4
    go_enter Tryz.func87, Tryz.ntmps87
    go_wp2_with fail
    refine HC.out.mono ?_
    rintro e w1 ⟨rfl, hb1⟩
    have hS1 := HS.out.after hb1
    have p1 := Blk.cell hS1.p 1
    have f1 := Blk.frozen hS1.p 1
    have HS1 := Lib.hid hS1
    have HB1 := Lib.hid hb1
    clear hS1 hb1
    go_wp2_with fail
    first | go_end0 | refine bodyPost_ret (results_none rfl _ _ _) rfl ?_
    refine ⟨k + 1, false, false, rfl, ?_, grown_set (grown_of HB1.out _) _ _, Nat.le_succ _⟩
    rw [HN.out]
    exact HS1.out.next HK.out
  | false =>
    have HN : Hid (RsI l (needS l s x) k true deep) := Lib.hid (by
      have h := hS.i
      cases s with
      | on k' =>
        obtain ⟨rfl, h1, h2⟩ := h
        show RsI l (if takes x (leftT l k) then _ else _) k true deep
        rw [if_neg (by intro h; have : isS l (.on k) x = true := h; rw [hi] at this; cases this)]
        exact ⟨rfl, .inr ⟨rfl, h2, rfl⟩⟩
      | off e m => exact ⟨rfl, h.2⟩)
    rw [hi] at HC
    clear hS hi
    go_enter Tryz.func87, Tryz.ntmps87
    go_wp2_with fail
    refine HC.out.mono ?_
    rintro e w1 ⟨rfl, hb1⟩
    have hS1 := HS.out.after hb1
    have p2 := Blk.cell hS1.p 2
    have f2 := Blk.frozen hS1.p 2
    have HS1 := Lib.hid hS1
    have HB1 := Lib.hid hb1
    clear hS1 hb1
    go_wp2_with fail
    first | go_end0 | refine bodyPost_ret (results_none rfl _ _ _) rfl ?_
    have hD := HS1.out
    exact ⟨k, true, deep, rfl, hD.step (grown_set (World.grownBy.refl _ _) _ _) (Blk.set_ hD.p 2 (.bool true)) HN.out hD.k, grown_set (grown_of HB1.out _) _ _, Nat.le_refl _⟩

/-- A formula of two parts; its row is new. -/
def TwoP (w : World) (kd : Int) (fg : Array Value) (e : Ending) (w' : World) : Prop := ∃ b, e = .returned (.agg #[.int .i64 kd, .string ⟨#[]⟩, .int .i64 0, .slice (some ⟨b, 0, none⟩) 2 2]) ∧ w.heap.size ≤ b ∧ Blk w' b 28 fg ∧ Below w.heap.size w w'
set_option maxHeartbeats 2000000 in
theorem two_any (kd : Int) (f g : Fm) (A B : Option Addr) (cf cg : Nat) (w : World) : Calls Tryz.prog 43 #[.int .i64 kd, .agg #[.int .i64 f.kind, .string ⟨f.name.toArray⟩, .int .i64 f.lit, .slice A f.kids.length cf], .agg #[.int .i64 g.kind, .string ⟨g.name.toArray⟩, .int .i64 g.lit, .slice B g.kids.length cg]] w (TwoP w kd #[.int .i64 f.kind, .string ⟨f.name.toArray⟩, .int .i64 f.lit, .slice A f.kids.length cf, .int .i64 g.kind, .string ⟨g.name.toArray⟩, .int .i64 g.lit, .slice B g.kids.length cg]) := by
  have hb : Below w.heap.size w ((((w.alloc (.cells #[.int .i64 f.kind, .string ⟨f.name.toArray⟩, .int .i64 f.lit, .slice A f.kids.length cf] 28)).alloc (.cells #[.int .i64 g.kind, .string ⟨g.name.toArray⟩, .int .i64 g.lit, .slice B g.kids.length cg] 28)).alloc (.cells #[.int .i64 kd, .string ⟨#[]⟩, .int .i64 0, .slice (some ⟨w.heap.size + 1 + 1 + 1, 0, none⟩) 2 2] 28)).alloc (.cells #[.int .i64 f.kind, .string ⟨f.name.toArray⟩, .int .i64 f.lit, .slice A f.kids.length cf, .int .i64 g.kind, .string ⟨g.name.toArray⟩, .int .i64 g.lit, .slice B g.kids.length cg] 28)) := (((stepA w _).alloc (by simp) _).alloc (by simp; omega) _).alloc (by simp; omega) _
  have HB := Lib.hid hb
  clear hb
  go_enter Tryz.func43, Tryz.ntmps43
  go_wp2_with fail
  have hZ := (Blk.new ((w.alloc (.cells #[.int .i64 f.kind, .string ⟨f.name.toArray⟩, .int .i64 f.lit, .slice A f.kids.length cf] 28)).alloc (.cells #[.int .i64 g.kind, .string ⟨g.name.toArray⟩, .int .i64 g.lit, .slice B g.kids.length cg] 28)) 28 #[.int .i64 kd, .string ⟨#[]⟩, .int .i64 0, .slice (some ⟨w.heap.size + 1 + 1 + 1, 0, none⟩) 2 2]).alloc (.cells #[.int .i64 f.kind, .string ⟨f.name.toArray⟩, .int .i64 f.lit, .slice A f.kids.length cf, .int .i64 g.kind, .string ⟨g.name.toArray⟩, .int .i64 g.lit, .slice B g.kids.length cg] 28)
  have hR := Blk.new (((w.alloc (.cells #[.int .i64 f.kind, .string ⟨f.name.toArray⟩, .int .i64 f.lit, .slice A f.kids.length cf] 28)).alloc (.cells #[.int .i64 g.kind, .string ⟨g.name.toArray⟩, .int .i64 g.lit, .slice B g.kids.length cg] 28)).alloc (.cells #[.int .i64 kd, .string ⟨#[]⟩, .int .i64 0, .slice (some ⟨w.heap.size + 1 + 1 + 1, 0, none⟩) 2 2] 28)) 28 #[.int .i64 f.kind, .string ⟨f.name.toArray⟩, .int .i64 f.lit, .slice A f.kids.length cf, .int .i64 g.kind, .string ⟨g.name.toArray⟩, .int .i64 g.lit, .slice B g.kids.length cg]
  rw [World.size_alloc, World.size_alloc] at hZ
  rw [World.size_alloc, World.size_alloc, World.size_alloc] at hR
  have z0 := hZ.cell 0
  have z1 := hZ.cell 1
  have z2 := hZ.cell 2
  have z3 := hZ.cell 3
  refine bodyPost_ret (v := .agg #[.int .i64 kd, .string ⟨#[]⟩, .int .i64 0, .slice (some ⟨w.heap.size + 1 + 1 + 1, 0, none⟩) 2 2]) (by simp [results, Tryz.results43, go_sem, z0, z1, z2, z3]) rfl ⟨w.heap.size + 1 + 1 + 1, rfl, by omega, hR, HB.out⟩

def unW : List (List UInt8) := [[69, 88], [65, 88], [69, 70], [65, 70], [69, 71], [65, 71]]
def unV : List Value := unW.map fun x => .string ⟨x.toArray⟩
theorem unV_arr : unV.toArray = (#[.string ⟨#[69, 88]⟩, .string ⟨#[65, 88]⟩, .string ⟨#[69, 70]⟩, .string ⟨#[65, 70]⟩, .string ⟨#[69, 71]⟩, .string ⟨#[65, 71]⟩] : Array Value) := rfl
theorem unaryK_at {k : Nat} {x : List UInt8} (h : unW[k]? = some x) : unaryK x = 9 + (k : Int) := by
  match k, h with
  | 0, h => cases h; rfl
  | 1, h => cases h; rfl
  | 2, h => cases h; rfl
  | 3, h => cases h; rfl
  | 4, h => cases h; rfl
  | 5, h => cases h; rfl
  | k + 6, h => simp [unW] at h
theorem unaryK_none {s : List UInt8} (h : ∀ j x, j < 6 → unW[j]? = some x → (x == s) = false) : unaryK s = if s = [33] then 4 else 0 := by
  have e : ∀ j x, j < 6 → unW[j]? = some x → s ≠ x := fun j x hj hx he => by
    have := h j x hj hx
    rw [he] at this
    simp at this
  unfold unaryK
  rw [if_neg (e 0 _ (by decide) rfl), if_neg (e 1 _ (by decide) rfl), if_neg (e 2 _ (by decide) rfl), if_neg (e 3 _ (by decide) rfl), if_neg (e 4 _ (by decide) rfl), if_neg (e 5 _ (by decide) rfl)]

set_option maxHeartbeats 1000000 in
theorem runary_any (s : List UInt8) (w : World) : Calls Tryz.prog 86 #[.string ⟨s.toArray⟩] w (Ret w (.int .i64 (unaryK s))) := by
  have hB := Blk.new w 9 unV.toArray
  have hb := stepA w (.cells unV.toArray 9)
  obtain ⟨w1, hw1⟩ : ∃ w1, w1 = w.alloc (.cells (#[.string ⟨#[69, 88]⟩, .string ⟨#[65, 88]⟩, .string ⟨#[69, 70]⟩, .string ⟨#[65, 70]⟩, .string ⟨#[69, 71]⟩, .string ⟨#[65, 71]⟩] : Array Value) 9) := ⟨_, rfl⟩
  rw [unV_arr, ← hw1] at hb
  have hB2 : Blk w1 w.heap.size 9 unV.toArray := by rw [hw1]; exact hB
  have HW1 := Lib.hid hw1
  have HB := Lib.hid hb
  have HP := Lib.hid hB2
  clear hB hB2 hb hw1
  go_enter Tryz.func86, Tryz.ntmps86
  go_wp2_with fail
  rw [← HW1.out]
  go_loopw [4] (fun i wr => ∃ k : Nat, k ≤ 6 ∧ i = .int .i64 (k : Int) ∧ wr = w1 ∧ ∀ j x, j < k → unW[j]? = some x → (x == s) = false) (fun i _ => 6 - (intOf i).toNat)
  case atStart => exact ⟨0, Nat.zero_le _, rfl, rfl, fun j x h => by omega⟩
  case round =>
    obtain ⟨k, hk, rfl, rfl, hall⟩ := hrel
    have HALL := Lib.hid hall
    clear hall
    by_cases hlt : k < 6
    · have hlt' : (k : Int) < 6 := by omega
      obtain ⟨x, hx⟩ : ∃ x, unW[k]? = some x := ⟨_, List.getElem?_eq_getElem (by simpa [unW] using hlt)⟩
      have hc : wr.cell? ⟨w.heap.size, k, none⟩ = some (.string ⟨x.toArray⟩) := by
        rw [HP.out.cell, List.getElem?_toArray]
        unfold unV
        rw [List.getElem?_map, hx]
        rfl
      have HX := Lib.hid hx
      clear hx
      cases he : (x == s) with
      | true =>
        have HE : Hid (unaryK s = 9 + (k : Int)) := Lib.hid (by
          rw [beq_iff_eq] at he
          rw [← he]
          exact unaryK_at HX.out)
        go_wp2_with fail
        go_ret
        exact Ret.mk (by rw [HE.out]; rfl) HB.out
      | false =>
        have HE := Lib.hid he
        go_wp2_with fail
        clear he
        go_roundw
        case rel =>
          refine ⟨k + 1, by omega, by go_num, by first | rfl | trivial, fun j y hj hy => ?_⟩
          by_cases hjk : j < k
          · exact HALL.out j y hjk hy
          · obtain rfl : j = k := by omega
            rw [HX.out] at hy
            cases hy
            exact HE.out
        case measure => simp [intOf]; omega
    · have hlt' : ¬ (k : Int) < 6 := by omega
      have HE := Lib.hid (unaryK_none (s := s) (fun j x hj => HALL.out j x (by omega)))
      cases he : (s == [33]) with
      | true =>
        have HF : Hid (unaryK s = 4) := Lib.hid (by rw [HE.out, if_pos (by simpa using he)])
        go_wp2_with fail
        go_ret
        exact Ret.mk (by rw [HF.out]; rfl) HB.out
      | false =>
        have HF : Hid (unaryK s = 0) := Lib.hid (by rw [HE.out, if_neg (by simpa using he)])
        go_wp2_with fail
        go_ret
        exact Ret.mk (by rw [HF.out]; rfl) HB.out
end
end Go.Proofs.YtijecfmblddanaaGreatDoor

set_option linter.unusedVariables false
set_option linter.unusedSimpArgs false
namespace Go.Proofs.YtijecfmblddanaaGreatDoor
open Go.RowKit Go.Maps

/-- What a function does, wherever it is called from here on. -/
def PartsR (F : FuncId) (args : Array Value) (w : World) (pb tb to c : Nat) (l : List Tk) (k : Nat) (g : List KT → PR) : Prop :=
  ∀ (W : World) (s : RS) (k' : Nat) (bad deep : Bool), w.grownBy W (some pb) → RsSt W pb tb to c l s k' bad deep → k ≤ k' → Calls Tryz.prog F args W (RPost W pb tb to c l k' (rOf l g s))

/-- How much is left to do: nothing, once it went wrong. -/
def leftR (w : World) (pb len : Nat) : Nat := match w.cell? ⟨pb, 2, none⟩, w.cell? ⟨pb, 1, none⟩ with
  | some (.bool false), some (.int _ k) => len + 1 - k.toNat
  | _, _ => 0

/-- What stands in a loop. -/
structure RcR (w : World) (pb tb to c : Nat) (l : List Tk) (k0 : Nat) (g : List KT → PR) (sg : List UInt8) (kd : Int) (R0 : PR) (xf : Nat) (wr : World) (f : Fm) (A : Option Addr) (cf : Nat) (st : RS) (k : Nat) (bad deep : Bool) (m : Nat) : Prop where
  b : Blk wr xf 28 #[.int .i64 f.kind, .string ⟨f.name.toArray⟩, .int .i64 f.lit, .slice A f.kids.length cf]
  r : Blk wr w.heap.size 28 #[.int .i64 0, .string ⟨#[]⟩, .int .i64 0, .slice none 0 0]
  v : FmVQ wr (fun b => w.heap.size ≤ b ∧ b < wr.heap.size ∧ b ≠ xf ∧ b ≠ w.heap.size) f A cf
  so : RsSt wr pb tb to c l st k bad deep
  gr : w.grownBy wr (some pb)
  km : k0 ≤ k
  e : (st = .on k ∧ l.length - k ≤ m ∧ R0 = chainL g sg kd m f (leftT l k)) ∨ (∃ e m', st = .off e m' ∧ R0 = .bad e m')

section
variable {w w1 w2 : World} {pb tb to c k0 k xf cf m : Nat} {l : List Tk} {g : List KT → PR} {sg : List UInt8} {kd : Int} {R0 : PR} {f : Fm} {A : Option Addr} {st s0 : RS} {bad deep : Bool}
theorem RcR.left (h : RcR w pb tb to c l k0 g sg kd R0 xf w1 f A cf st k bad deep m) : leftR w1 pb l.length = if bad then 0 else l.length + 1 - k := by
  unfold leftR
  rw [Blk.cell h.so.p 2, Blk.cell h.so.p 1]
  cases bad <;> simp
theorem chainL_go' {g : List KT → PR} {s : List UInt8} {kd : Int} {m : Nat} {f : Fm} {t : List KT} (h : takes s t = true) (hm : 0 < m) : chainL g s kd m f t = (g t.tail).bind fun f2 t2 => chainL g s kd (m - 1) (.mk kd [] 0 [f, f2]) t2 := by
  obtain ⟨m, rfl⟩ : ∃ m', m = m' + 1 := ⟨m - 1, by omega⟩
  rw [chainL, if_pos h]
  rfl
/-- The start. -/
theorem rc_start {r : PR} {k1 : Nat} (hr : r = rOf l g s0) (hf : ∀ f' t, r = .ok f' t → f = f' ∧ t = leftT l k1) (hs : RsI l (stOf l r) k1 bad deep) (hk : k1 < l.length) :
    (stOf l r = .on k1 ∧ l.length - k1 ≤ l.length - k1 ∧ rOf l (chainP g sg kd) s0 = chainL g sg kd (l.length - k1) f (leftT l k1)) ∨ (∃ e m', stOf l r = .off e m' ∧ rOf l (chainP g sg kd) s0 = .bad e m') := by
  cases s0 with
  | off e m =>
    right
    have e1 : r = .bad e m := hr
    exact ⟨e, m, by rw [e1]; rfl, rfl⟩
  | on k =>
    have e1 : r = g (leftT l k) := hr
    cases hg : g (leftT l k) with
    | bad e m =>
      right
      refine ⟨e, m, by rw [e1, hg]; rfl, ?_⟩
      show chainP g sg kd (leftT l k) = _
      unfold chainP
      rw [hg, PR.bind_bad]
    | ok f' t =>
      left
      obtain ⟨rfl, rfl⟩ := hf f' t (by rw [e1, hg])
      refine ⟨by rw [e1, hg, stOf_left hk], Nat.le_refl _, ?_⟩
      show chainP g sg kd (leftT l k) = _
      unfold chainP
      rw [hg, PR.bind_ok, leftT_len]
/-- One part more. -/
theorem rc_more {r2 : PR} {k2 : Nat} {f2 : Fm} (hm : l.length - k ≤ m) (hR : R0 = chainL g sg kd m f (leftT l k)) (htk : takes sg (leftT l k) = true) (hk : k < l.length) (hr : r2 = g (leftT l (k + 1))) (hf : ∀ f' t, r2 = .ok f' t → f2 = f' ∧ t = leftT l k2) (hk2 : k2 < l.length) (hkk : k + 1 ≤ k2) :
    (stOf l r2 = .on k2 ∧ l.length - k2 ≤ m - 1 ∧ R0 = chainL g sg kd (m - 1) (.mk kd [] 0 [f, f2]) (leftT l k2)) ∨ (∃ e m', stOf l r2 = .off e m' ∧ R0 = .bad e m') := by
  have hm0 : 0 < m := by omega
  rw [chainL_go' htk hm0, leftT_tail] at hR
  cases hg : g (leftT l (k + 1)) with
  | bad e m' =>
    right
    rw [hg, PR.bind_bad] at hR
    exact ⟨e, m', by rw [hr, hg]; rfl, hR⟩
  | ok f' t =>
    left
    obtain ⟨rfl, rfl⟩ := hf f' t (by rw [hr, hg])
    rw [hg, PR.bind_ok] at hR
    exact ⟨by rw [hr, hg, stOf_left hk2], by omega, hR⟩
/-- The end. -/
theorem rc_end {w' : World} (h : RcR w pb tb to c l k0 g sg kd R0 xf w1 f A cf st k bad deep m) (hi : isS l st sg = false) (hg : w1.grownBy w' none) (hpb : pb < w.heap.size) (htb : tb < w.heap.size) :
    RPost w pb tb to c l k0 R0 (.returned (fmA f A cf)) ((((w'.setCell ⟨w.heap.size, 0, none⟩ (.int .i64 f.kind)).setCell ⟨w.heap.size, 1, none⟩ (.string ⟨f.name.toArray⟩)).setCell ⟨w.heap.size, 2, none⟩ (.int .i64 f.lit)).setCell ⟨w.heap.size, 3, none⟩ (.slice A f.kids.length cf)) := by
  have hb : Below w1.heap.size w1 w' := ⟨hg.os, hg.tape, hg.output, hg.size, fun i hi => hg.block i hi (by simp)⟩
  have hs := hb.size
  refine ⟨f, A, cf, k, bad, deep, rfl, h.km, ?_, ?_, ?_, ?_⟩
  · exact grown_new (grown_new (grown_new (grown_new (grown_trans h.gr (grown_of hb _)) (Nat.le_refl _) _) (Nat.le_refl _) _) (Nat.le_refl _) _) (Nat.le_refl _) _
  · have hst : stOf l R0 = st := by
      rcases h.e with ⟨e1, _, e2⟩ | ⟨e, m', e1, e2⟩
      · subst e1
        have hi' : takes sg (leftT l k) = false := hi
        rw [e2, chainL_stop _ _ _ _ _ _ hi', stOf_left h.so.k]
      · rw [e2, e1]; rfl
    rw [hst]
    exact (((((h.so.after hb).far (by omega) (by omega) _).far (by omega) (by omega) _).far (by omega) (by omega) _).far (by omega) (by omega) _)
  · have hq : ∀ b, (w.heap.size ≤ b ∧ b < w1.heap.size ∧ b ≠ xf ∧ b ≠ w.heap.size) → b ≠ w.heap.size := fun b h => h.2.2.2
    refine (((((h.v.low (B := w1.heap.size) (fun b hb' => ⟨hb'.2.1, hb'⟩) hb).far hq _).far hq _).far hq _).far hq _).keep (fun b hb => ⟨hb.1, ?_⟩) fun b _ => rfl
    simp only [World.setCell, Array.size_modify]
    exact Nat.lt_of_lt_of_le hb.2.1 hs
  · intro f' t hR
    rcases h.e with ⟨e1, _, e2⟩ | ⟨e, m', e1, e2⟩
    · subst e1
      have hi' : takes sg (leftT l k) = false := hi
      rw [e2, chainL_stop _ _ _ _ _ _ hi'] at hR
      cases hR
      exact ⟨rfl, rfl⟩
    · rw [e2] at hR
      cases hR
end
/-- What a call hands back, stored into the result's block. -/
theorem rs_finish {w w1 w' : World} {pb tb to c k0 k1 k cf xr : Nat} {l : List Tk} {r : PR} {f : Fm} {A : Option Addr} {bad deep : Bool} (hg : w.grownBy w1 (some pb)) (hxr : w.heap.size ≤ xr) (hx : xr < w1.heap.size) (hP : RsOk w1 pb tb to c l k1 r f A cf k bad deep w') (hk : k0 ≤ k1) (hpb : pb < w.heap.size) (htb : tb < w.heap.size) :
    RPost w pb tb to c l k0 r (.returned (fmA f A cf)) ((((w'.setCell ⟨xr, 0, none⟩ (.int .i64 f.kind)).setCell ⟨xr, 1, none⟩ (.string ⟨f.name.toArray⟩)).setCell ⟨xr, 2, none⟩ (.int .i64 f.lit)).setCell ⟨xr, 3, none⟩ (.slice A f.kids.length cf)) := by
  have hkm := hP.km
  refine ⟨f, A, cf, k, bad, deep, rfl, by omega, ?_, ?_, ?_, hP.f⟩
  · exact grown_new (grown_new (grown_new (grown_new (grown_trans hg hP.g) hxr _) hxr _) hxr _) hxr _
  · exact (((hP.s.far (by omega) (by omega) _).far (by omega) (by omega) _).far (by omega) (by omega) _).far (by omega) (by omega) _
  · have hq : ∀ b, (w1.heap.size ≤ b ∧ b < w'.heap.size) → b ≠ xr := fun b h => by omega
    refine ((((hP.v.far hq _).far hq _).far hq _).far hq _).keep (fun b hb => ⟨by omega, ?_⟩) fun b _ => rfl
    simp only [World.setCell, Array.size_modify]
    exact hb.2

/-- The end: what is handed back lies in blocks behind the result's. -/
theorem rs_store {w w' : World} {pb tb to c k0 k cf : Nat} {l : List Tk} {r : PR} {f : Fm} {A : Option Addr} {bad deep : Bool} (hP : RsOk w pb tb to c l k0 r f A cf k bad deep w') (hQ : FmVQ w' (fun b => w.heap.size < b ∧ b < w'.heap.size) f A cf) (hpb : pb < w.heap.size) (htb : tb < w.heap.size) :
    RPost w pb tb to c l k0 r (.returned (fmA f A cf)) ((((w'.setCell ⟨w.heap.size, 0, none⟩ (.int .i64 f.kind)).setCell ⟨w.heap.size, 1, none⟩ (.string ⟨f.name.toArray⟩)).setCell ⟨w.heap.size, 2, none⟩ (.int .i64 f.lit)).setCell ⟨w.heap.size, 3, none⟩ (.slice A f.kids.length cf)) := by
  refine ⟨f, A, cf, k, bad, deep, rfl, hP.km, ?_, ?_, ?_, hP.f⟩
  · exact grown_new (grown_new (grown_new (grown_new hP.g (Nat.le_refl _) _) (Nat.le_refl _) _) (Nat.le_refl _) _) (Nat.le_refl _) _
  · exact (((hP.s.far (by omega) (by omega) _).far (by omega) (by omega) _).far (by omega) (by omega) _).far (by omega) (by omega) _
  · have hq : ∀ b, (w.heap.size < b ∧ b < w'.heap.size) → b ≠ w.heap.size := fun b h => by omega
    refine ((((hQ.far hq _).far hq _).far hq _).far hq _).keep (fun b hb => ⟨by omega, ?_⟩) fun b _ => rfl
    simp only [World.setCell, Array.size_modify]
    exact hb.2
def RPartC (n : Nat) : Prop := ∀ (w : World) (pb tb to c k : Nat) (l : List Tk) (s : RS) (bad deep : Bool) (d : Int), ToksOk l → RsSt w pb tb to c l s k bad deep → 0 ≤ d → d + ((l.length - k : Nat) : Int) ≤ 30000 → 3 * (l.length - k) + 1 ≤ n → Calls Tryz.prog 73 #[.pointer (some ⟨pb, 0, none⟩), .int .i64 d] w (RPost w pb tb to c l k (rOf l (partP n d) s))
def RImplyC (n : Nat) : Prop := ∀ (w : World) (pb tb to c k : Nat) (l : List Tk) (s : RS) (bad deep : Bool) (d : Int), ToksOk l → RsSt w pb tb to c l s k bad deep → 0 ≤ d → d + ((l.length - k : Nat) : Int) ≤ 30000 → 3 * (l.length - k) + 2 ≤ n → Calls Tryz.prog 41 #[.pointer (some ⟨pb, 0, none⟩), .int .i64 d] w (RPost w pb tb to c l k (rOf l (implyP n d) s))
def RWholeC (n : Nat) : Prop := ∀ (w : World) (pb tb to c k : Nat) (l : List Tk) (s : RS) (bad deep : Bool) (d : Int), ToksOk l → RsSt w pb tb to c l s k bad deep → 0 ≤ d → d + ((l.length - k : Nat) : Int) ≤ 30000 → 3 * (l.length - k) + 3 ≤ n → Calls Tryz.prog 26 #[.pointer (some ⟨pb, 0, none⟩), .int .i64 d] w (RPost w pb tb to c l k (rOf l (wholeP n d) s))

set_option maxRecDepth 100000 in
set_option maxHeartbeats 8000000 in
theorem rwhole_step (n : Nat) (hIC : RImplyC n) : RWholeC (n + 1) := by
  intro w pb tb to c k0 l s bad0 deep0 d hT hS hd0 hd1 hn
  have hpl := hS.lt
  have htl := hS.t.lt
  have hbA := stepA w (.cells #[.int .i64 0, .string ⟨#[]⟩, .int .i64 0, .slice none 0 0] 28)
  have HRs := Lib.hid (Blk.new w 28 #[.int .i64 0, .string ⟨#[]⟩, .int .i64 0, .slice none 0 0])
  have HGs := Lib.hid (grown_of hbA (some pb))
  have HSs := Lib.hid (hS.after hbA)
  have HPR : Hid (PartsR 41 #[.pointer (some ⟨pb, 0, none⟩), .int .i64 d] w pb tb to c l k0 (implyP n d)) := Lib.hid fun W s' k' bad deep hg hs hk => hIC W pb tb to c k' l s' bad deep d hT hs hd0 (by omega) (by omega)
  obtain ⟨R0, hR0⟩ : ∃ R0, R0 = rOf l (wholeP (n + 1) d) s := ⟨_, rfl⟩
  rw [← hR0]
  have q2 := Blk.cell hS.p 2
  have q3 := Blk.cell hS.p 3
  have qf2 := Blk.frozen hS.p 2
  have qf3 := Blk.frozen hS.p 3
  clear hbA hIC
  by_cases hd : 200 < d
  · cases hb : bad0 with
    | false =>
      rw [hb] at q2 HSs
      have HI : Hid (∃ k', s = .on k') := Lib.hid (by
        have h := hS.i
        rw [hb] at h
        cases s with
        | on k' => exact ⟨k', rfl⟩
        | off e m => exact absurd h.1 (by decide))
      have HR0 : Hid (R0 = rOf l (chainP (implyP n d) [60, 45, 62] 8) (.off 2 0)) := Lib.hid (by
        obtain ⟨k', hk'⟩ := HI.out
        rw [hR0, hk']
        show wholeP (n + 1) d (leftT l k') = .bad 2 0
        rw [wholeP, if_pos hd])
      have HS0 := Lib.hid hS
      clear hS hR0 hb HI
      go_enter Tryz.func26, Tryz.ntmps26
      go_wp2_with fail
      clear q2 q3 qf2 qf3
      have hgq : w.grownBy ((w.setCell ⟨pb, 2, none⟩ (.bool true)).setCell ⟨pb, 3, none⟩ (.bool true)) (some pb) := grown_set (grown_set (World.grownBy.refl _ _) _ _) _ _
      have hsq : ((w.setCell ⟨pb, 2, none⟩ (.bool true)).setCell ⟨pb, 3, none⟩ (.bool true)).heap.size = w.heap.size := by simp [World.setCell]
      have hbq := stepA ((w.setCell ⟨pb, 2, none⟩ (.bool true)).setCell ⟨pb, 3, none⟩ (.bool true)) (.cells #[.int .i64 0, .string ⟨#[]⟩, .int .i64 0, .slice none 0 0] 28)
      replace HSs : Hid (RsSt (((w.setCell ⟨pb, 2, none⟩ (.bool true)).setCell ⟨pb, 3, none⟩ (.bool true)).alloc (.cells #[.int .i64 0, .string ⟨#[]⟩, .int .i64 0, .slice none 0 0] 28)) pb tb to c l (.off 2 0) k0 true true) := Lib.hid ((HS0.out.step hgq (Blk.set_ (Blk.set_ HS0.out.p 2 (.bool true)) 3 (.bool true)) (show RsI l (.off 2 0) k0 true true from ⟨rfl, .inl ⟨rfl, rfl, rfl⟩⟩) HS0.out.k).after hbq)
      replace HGs := Lib.hid (grown_trans hgq (grown_of hbq _))
      replace HRs : Hid (Blk (((w.setCell ⟨pb, 2, none⟩ (.bool true)).setCell ⟨pb, 3, none⟩ (.bool true)).alloc (.cells #[.int .i64 0, .string ⟨#[]⟩, .int .i64 0, .slice none 0 0] 28)) w.heap.size 28 #[.int .i64 0, .string ⟨#[]⟩, .int .i64 0, .slice none 0 0]) := Lib.hid (by
        have := Blk.new ((w.setCell ⟨pb, 2, none⟩ (.bool true)).setCell ⟨pb, 3, none⟩ (.bool true)) 28 #[.int .i64 0, .string ⟨#[]⟩, .int .i64 0, .slice none 0 0]
        rwa [hsq] at this)
      clear hgq hsq hbq HS0
      generalize ((w.setCell ⟨pb, 2, none⟩ (.bool true)).setCell ⟨pb, 3, none⟩ (.bool true)).alloc (.cells #[.int .i64 0, .string ⟨#[]⟩, .int .i64 0, .slice none 0 0] 28) = wS at HSs HGs HRs ⊢
      obtain ⟨s1, hs1⟩ : ∃ s1 : RS, s1 = .off 2 0 := ⟨_, rfl⟩
      obtain ⟨badS, hbS⟩ : ∃ b : Bool, b = true := ⟨_, rfl⟩
      obtain ⟨deepS, hdS⟩ : ∃ b : Bool, b = true := ⟨_, rfl⟩
      replace HSs : Hid (RsSt wS pb tb to c l s1 k0 badS deepS) := Lib.hid (by rw [hs1, hbS, hdS]; exact HSs.out)
      rw [← hs1] at HR0
      clear hs1 hbS hdS
      go_wp2_with fail
      refine (HPR.out wS s1 k0 badS deepS HGs.out HSs.out (Nat.le_refl _)).mono ?_
      rintro e w4 ⟨f, A, cf, k1, bad1, deep1, rfl, hP⟩
      have hs4 := hP.g.size
      have hsw : w.heap.size + 1 ≤ w4.heap.size := by have := HRs.out.lt; omega
      have hbA := stepA w4 (.cells #[.int .i64 f.kind, .string ⟨f.name.toArray⟩, .int .i64 f.lit, .slice A f.kids.length cf] 28)
      have hx : Hid (RcR w pb tb to c l k0 (implyP n d) [60, 45, 62] 8 R0 w4.heap.size (w4.alloc (.cells #[.int .i64 f.kind, .string ⟨f.name.toArray⟩, .int .i64 f.lit, .slice A f.kids.length cf] 28)) f A cf (stOf l (rOf l (implyP n d) s1)) k1 bad1 deep1 (l.length - k1)) := Lib.hid (by
        refine ⟨Blk.new _ _ _, (HRs.out.grown hP.g (by simp; omega)).alloc _, ?_, hP.s.after hbA, grown_trans (grown_trans HGs.out hP.g) (grown_of hbA _), hP.km, ?_⟩
        · refine hP.v.low (B := w4.heap.size) (fun b hb => ?_) hbA
          have := HRs.out.lt
          simp only [World.size_alloc] at hb ⊢
          omega
        · rw [HR0.out]
          exact rc_start rfl hP.f hP.s.i hP.s.k)
      obtain ⟨xf, hxf⟩ : ∃ xf, xf = w4.heap.size := ⟨_, rfl⟩
      have hxw : w.heap.size < xf := by omega
      rw [← hxf] at hx
      clear hP hs4 hbA HRs HGs HSs
      unfold fmA
      go_wp2_with fail
      rw [← hxf]
      generalize w4.alloc (.cells #[.int .i64 f.kind, .string ⟨f.name.toArray⟩, .int .i64 f.lit, .slice A f.kids.length cf] 28) = w5 at hx ⊢
      clear hxf hsw
      go_loopw [] (fun wr => ∃ (f : Fm) (A : Option Addr) (cf : Nat) (st : RS) (k : Nat) (bad deep : Bool) (m : Nat), RcR w pb tb to c l k0 (implyP n d) [60, 45, 62] 8 R0 xf wr f A cf st k bad deep m) (fun wr => leftR wr pb l.length)
      case atStart => exact ⟨f, A, cf, _, k1, bad1, deep1, _, hx.out⟩
      case round =>
        clear hx
        obtain ⟨f, A, cf, st, k, bad, deep, m, hR⟩ := hrel
        have HR := Lib.hid hR
        have HLF := Lib.hid hR.left
        have HIS := Lib.hid (ris_any hR.so [60, 45, 62])
        have hxr := hR.b.lt
        cases hi : isS l st [60, 45, 62] with
        | false =>
          rw [hi] at HIS
          have HI := Lib.hid hi
          clear hR hi
          go_wp2_with fail
          refine HIS.out.mono ?_
          rintro e w6 ⟨rfl, hb6⟩
          have hB6 := HR.out.b.below hb6 hxr
          have hR6 := HR.out.r.below hb6 HR.out.r.lt
          have b0 := hB6.cell 0
          have b1 := hB6.cell 1
          have b2 := hB6.cell 2
          have b3 := hB6.cell 3
          have r0 := hR6.cell 0
          have r1 := hR6.cell 1
          have r2 := hR6.cell 2
          have r3 := hR6.cell 3
          have x0 := hR6.frozen 0
          have x1 := hR6.frozen 1
          have x2 := hR6.frozen 2
          have x3 := hR6.frozen 3
          have HR6 := Lib.hid hR6
          have HB6 := Lib.hid hb6
          clear hB6 hR6 hb6
          go_wp2_with fail
          clear b0 b1 b2 b3 r0 r1 r2 r3 x0 x1 x2 x3
          have hZ := (((HR6.out.set_ 0 (.int .i64 f.kind)).set_ 1 (.string ⟨f.name.toArray⟩)).set_ 2 (.int .i64 f.lit)).set_ 3 (.slice A f.kids.length cf)
          have z0 := hZ.cell 0
          have z1 := hZ.cell 1
          have z2 := hZ.cell 2
          have z3 := hZ.cell 3
          refine bodyPost_ret (v := fmA f A cf) (by simp [fmA, results, Tryz.results26, go_sem, z0, z1, z2, z3]) rfl ?_
          exact rc_end HR.out HI.out (grown_of HB6.out none) (by omega) (by omega)
        | true =>
          obtain ⟨rfl, rfl, rfl, htk⟩ := isS_on hi hR.so.i
          rw [hi] at HIS
          have hkl := hR.so.k
          have hk1' := takes_next hT hkl htk
          have HTK := Lib.hid htk
          have HEE : Hid (l.length - k ≤ m ∧ R0 = chainL (implyP n d) [60, 45, 62] 8 m f (leftT l k)) := Lib.hid (by
            rcases hR.e with ⟨_, h2, h3⟩ | ⟨e, m', h1, _⟩
            · exact ⟨h2, h3⟩
            · cases h1)
          have hwk : (k : Int) + 1 ≤ 30000 := by have := hT.many; omega
          clear hR hi htk
          go_wp2_with fail
          refine HIS.out.mono ?_
          rintro e w6 ⟨rfl, hb6⟩
          have hS6 := HR.out.so.after hb6
          have q1 := Blk.cell hS6.p 1
          have qf := Blk.frozen hS6.p 1
          have HS6' := Lib.hid hS6
          have HB6 := Lib.hid hb6
          clear hS6 hb6
          go_wp2_with fail
          clear q1 qf
          have HS6 := Lib.hid (HS6'.out.next hk1')
          have hgs : wr.grownBy (w6.setCell ⟨pb, 1, none⟩ (.int .i64 ((k : Int) + 1))) (some pb) := grown_set (grown_of HB6.out _) _ _
          clear HS6' HB6
          have hX6 := HR.out.b.grown hgs (by simp; omega)
          have hV6 := HR.out.v.keep (w' := w6.setCell ⟨pb, 1, none⟩ (.int .i64 ((k : Int) + 1))) (Q' := fun b => w.heap.size ≤ b ∧ b < (w6.setCell ⟨pb, 1, none⟩ (.int .i64 ((k : Int) + 1))).heap.size ∧ b ≠ xf ∧ b ≠ w.heap.size) (fun b hb => ⟨hb.1, by have := hgs.size; omega, hb.2.2⟩) (fun b hb => hgs.block b hb.2.1 (by simp; omega))
          have HX6 := Lib.hid hX6
          have HV6 := Lib.hid hV6
          have HR6 := Lib.hid (HR.out.r.grown hgs (by simp; omega))
          have HG6 := Lib.hid (grown_trans HR.out.gr hgs)
          have hx6 := hX6.lt
          have hkm := HR.out.km
          clear hX6 hV6 hgs HR hxr
          generalize w6.setCell ⟨pb, 1, none⟩ (.int .i64 ((k : Int) + 1)) = w7 at HS6 HX6 HV6 HR6 HG6 hx6 ⊢
          have hb7 : Below w7.heap.size w7 w7.drew := stepD1 w7
          have HX7 := Lib.hid (HX6.out.below hb7 hx6)
          have HR7 := Lib.hid (HR6.out.below hb7 HR6.out.lt)
          have HG7 := Lib.hid (grown_trans HG6.out (grown_of hb7 _))
          have hz7 := hb7.size
          have HV7 : Hid (FmVQ w7.drew (fun b => w.heap.size ≤ b ∧ b < (w7.drew).heap.size ∧ b ≠ xf ∧ b ≠ w.heap.size) f A cf) := Lib.hid (HV6.out.low (B := w7.heap.size) (fun b hb => ⟨hb.2.1, hb.1, Nat.lt_of_lt_of_le hb.2.1 hz7, hb.2.2⟩) hb7)
          have HS7 := Lib.hid (HS6.out.after hb7)
          have HC := Lib.hid (HPR.out (w7.drew) (.on (k + 1)) (k + 1) false false HG7.out HS7.out (by omega))
          clear hb7
          refine wp_region_noPanic ?_
          refine wp_region_seq (fun W => W.cell? ⟨xf, 0, none⟩ = some (.int .i64 f.kind) ∧ W.cell? ⟨xf, 1, none⟩ = some (.string ⟨f.name.toArray⟩) ∧ W.cell? ⟨xf, 2, none⟩ = some (.int .i64 f.lit) ∧ W.cell? ⟨xf, 3, none⟩ = some (.slice A f.kids.length cf)) [0, 1, 2, 3, 4, 5] [0, 1, 2] [5] (by kernel_rfl) (by kernel_rfl) rfl (by kernel_rfl) (by kernel_rfl) (fun _ _ _ _ _ h => h) ?_ (fun hSS => ?_)
          · exact ⟨HX7.out.cell 0, HX7.out.cell 1, HX7.out.cell 2, HX7.out.cell 3⟩
          clear hSS
          (refine wpSeq_mov rfl rfl ?_; intro o ho; simp only [List.getElem?_toArray, List.getElem?_cons_zero, List.getElem?_cons_succ, Option.some.injEq] at ho; subst ho; refine ⟨?_, Or.inl ⟨by rfl, fun W hSW => ?_⟩, ?_⟩; rotate_left; (focus (go_simp; first | done | with_reducible rfl)); try simp only [Act.put, List.setIfInBounds_toArray, List.set_cons_zero, List.set_cons_succ])
          (refine wpSeq_mov rfl rfl ?_; intro o ho; simp only [List.getElem?_toArray, List.getElem?_cons_zero, List.getElem?_cons_succ, Option.some.injEq] at ho; subst ho; refine ⟨?_, Or.inl ⟨by rfl, fun W hSW => ?_⟩, ?_⟩; rotate_left; (focus (go_simp; first | done | with_reducible rfl)); try simp only [Act.put, List.setIfInBounds_toArray, List.set_cons_zero, List.set_cons_succ])
          (refine wpSeq_mov rfl rfl ?_; intro o ho; simp only [List.getElem?_toArray, List.getElem?_cons_zero, List.getElem?_cons_succ, Option.some.injEq] at ho; subst ho; refine ⟨?_, Or.inl ⟨by rfl, fun W hSW => ?_⟩, ?_⟩; rotate_left; (focus (go_simp; first | done | with_reducible rfl)); try simp only [Act.put, List.setIfInBounds_toArray, List.set_cons_zero, List.set_cons_succ])
          (refine wpSeq_fix rfl rfl ?_; intro o ho; simp only [List.getElem?_toArray, List.getElem?_cons_zero, List.getElem?_cons_succ, Option.some.injEq] at ho; subst ho; intro K hK)
          go_simp
          generalize w7.drew = W7 at HX7 HR7 HG7 HV7 HS7 HC hz7 ⊢
          refine HC.out.mono ?_
          clear HC
          rintro e w8 ⟨g, B, cg, k2, bad2, deep2, rfl, hP⟩
          have HMO : Hid ((stOf l (rOf l (implyP n d) (.on (k + 1))) = .on k2 ∧ l.length - k2 ≤ m - 1 ∧ R0 = chainL (implyP n d) [60, 45, 62] 8 (m - 1) (.mk 8 [] 0 [f, g]) (leftT l k2)) ∨ (∃ e m', stOf l (rOf l (implyP n d) (.on (k + 1))) = .off e m' ∧ R0 = .bad e m')) := Lib.hid (rc_more HEE.out.1 HEE.out.2 HTK.out hkl rfl hP.f hP.s.k hP.km)
          have HS8 := Lib.hid hP.s
          generalize hr2 : rOf l (implyP n d) (.on (k + 1)) = r2 at HMO HS8
          have hs8 := hP.g.size
          have HX8 := Lib.hid (HX7.out.grown hP.g (by simp; omega))
          have HR8 := Lib.hid (HR7.out.grown hP.g (by simp; omega))
          have HG8 := Lib.hid (grown_trans HG7.out hP.g)
          have HV8 : Hid (FmVQ w8 (fun b => w.heap.size ≤ b ∧ b < w8.heap.size ∧ b ≠ xf ∧ b ≠ w.heap.size) f A cf) := Lib.hid (HV7.out.keep (fun b hb => ⟨hb.1, by have := hb.2.1; omega, hb.2.2⟩) (fun b hb => hP.g.block b hb.2.1 (by simp; omega)))
          have HU8 : Hid (FmVQ w8 (fun b => w.heap.size ≤ b ∧ b < w8.heap.size ∧ b ≠ xf ∧ b ≠ w.heap.size) g B cg) := Lib.hid (hP.v.keep (fun b hb => ⟨by omega, hb.2, by omega, by omega⟩) (fun b _ => rfl))
          have hkm2 := hP.km
          have hk2l := hP.s.k
          clear hP hr2 HEE HTK
          unfold fmA
          (refine hK.out _ _ (fun _ => ⟨HX8.out.cell 0, HX8.out.cell 1, HX8.out.cell 2, HX8.out.cell 3⟩) ?_; clear hK K; try simp only [Act.put, List.setIfInBounds_toArray, List.set_cons_zero, List.set_cons_succ])
          (refine wpSeq_fix rfl rfl ?_; intro o ho; simp only [List.getElem?_toArray, List.getElem?_cons_zero, List.getElem?_cons_succ, Option.some.injEq] at ho; subst ho; intro K hK)
          go_simp
          refine (two_any 8 f g A B cf cg _).mono ?_
          rintro e w9 ⟨bb, rfl, hbb, hRW, hb9⟩
          have hs9 := hb9.size
          have HX9 := Lib.hid (HX8.out.below hb9 HX8.out.lt)
          have HR9 := Lib.hid (HR8.out.below hb9 HR8.out.lt)
          have HG9 := Lib.hid (grown_trans HG8.out (grown_of hb9 _))
          have HS9 := Lib.hid (HS8.out.after hb9)
          have HV9 : Hid (FmVQ w9 (fun b => w.heap.size ≤ b ∧ b < w9.heap.size ∧ b ≠ xf ∧ b ≠ w.heap.size) f A cf) := Lib.hid (HV8.out.low (B := w8.heap.size) (fun b hb => ⟨hb.2.1, hb.1, by omega, hb.2.2⟩) hb9)
          have HU9 : Hid (FmVQ w9 (fun b => w.heap.size ≤ b ∧ b < w9.heap.size ∧ b ≠ xf ∧ b ≠ w.heap.size) g B cg) := Lib.hid (HU8.out.low (B := w8.heap.size) (fun b hb => ⟨hb.2.1, hb.1, by omega, hb.2.2⟩) hb9)
          have HRW9 := Lib.hid hRW
          have hx8l := HX8.out.lt
          clear hb9 hRW
          (refine hK.out _ _ (fun _ => ⟨HX9.out.cell 0, HX9.out.cell 1, HX9.out.cell 2, HX9.out.cell 3⟩) ?_; clear hK K; try simp only [Act.put, List.setIfInBounds_toArray, List.set_cons_zero, List.set_cons_succ])
          have x0 := HX9.out.frozen 0
          have x1 := HX9.out.frozen 1
          have x2 := HX9.out.frozen 2
          have x3 := HX9.out.frozen 3
          have c0 := HX9.out.cell 0
          have c1 := HX9.out.cell 1
          have c2' := HX9.out.cell 2
          have c3 := HX9.out.cell 3
          (refine wpSeq_fix rfl rfl ?_; intro o ho; simp only [List.getElem?_toArray, List.getElem?_cons_zero, List.getElem?_cons_succ, Option.some.injEq] at ho; subst ho; intro K hK)
          go_simp
          (refine hK.out _ _ (fun h => by simp at h) ?_; clear hK K; try simp only [Act.put, List.setIfInBounds_toArray, List.set_cons_zero, List.set_cons_succ])
          refine wpSeq_done ?_
          clear x0 x1 x2 x3 c0 c1 c2' c3
          have HNEW : Hid (RcR w pb tb to c l k0 (implyP n d) [60, 45, 62] 8 R0 xf ((((w9.setCell ⟨xf, 0, none⟩ (.int .i64 8)).setCell ⟨xf, 1, none⟩ (.string ⟨#[]⟩)).setCell ⟨xf, 2, none⟩ (.int .i64 0)).setCell ⟨xf, 3, none⟩ (.slice (some ⟨bb, 0, none⟩) 2 2)) (.mk 8 [] 0 [f, g]) (some ⟨bb, 0, none⟩) 2 (stOf l r2) k2 bad2 deep2 (m - 1)) := Lib.hid (by
            have hq : ∀ b, (w.heap.size ≤ b ∧ b < w9.heap.size ∧ b ≠ xf ∧ b ≠ w.heap.size) → b ≠ xf := fun b h => h.2.2.1
            have hv := (((HV9.out.far (i := 0) hq (.int .i64 8)).far (i := 1) hq (.string ⟨#[]⟩)).far (i := 2) hq (.int .i64 0)).far (i := 3) hq (.slice (some ⟨bb, 0, none⟩) 2 2)
            have hv2 := (((HU9.out.far (i := 0) hq (.int .i64 8)).far (i := 1) hq (.string ⟨#[]⟩)).far (i := 2) hq (.int .i64 0)).far (i := 3) hq (.slice (some ⟨bb, 0, none⟩) 2 2)
            have hrow := (((HRW9.out.far (p := ⟨xf, 0, none⟩) (by dsimp only; omega) (.int .i64 8)).far (p := ⟨xf, 1, none⟩) (by dsimp only; omega) (.string ⟨#[]⟩)).far (p := ⟨xf, 2, none⟩) (by dsimp only; omega) (.int .i64 0)).far (p := ⟨xf, 3, none⟩) (by dsimp only; omega) (.slice (some ⟨bb, 0, none⟩) 2 2)
            have hsz : ((((w9.setCell ⟨xf, 0, none⟩ (.int .i64 8)).setCell ⟨xf, 1, none⟩ (.string ⟨#[]⟩)).setCell ⟨xf, 2, none⟩ (.int .i64 0)).setCell ⟨xf, 3, none⟩ (.slice (some ⟨bb, 0, none⟩) 2 2)).heap.size = w9.heap.size := by simp [World.setCell]
            have hrs := HRW9.out.lt
            refine ⟨(((HX9.out.set_ 0 (.int .i64 8)).set_ 1 (.string ⟨#[]⟩)).set_ 2 (.int .i64 0)).set_ 3 (.slice (some ⟨bb, 0, none⟩) 2 2), ?_, ?_, ?_, ?_, ?_, ?_⟩
            · exact (((HR9.out.far (p := ⟨xf, 0, none⟩) (by dsimp only; omega) _).far (p := ⟨xf, 1, none⟩) (by dsimp only; omega) _).far (p := ⟨xf, 2, none⟩) (by dsimp only; omega) _).far (p := ⟨xf, 3, none⟩) (by dsimp only; omega) _
            · refine ⟨by simp [Fm.kids], by simp [Fm.kids], by simp [Fm.kind], by simp [Fm.name], FmQ.two ⟨by omega, by rw [hsz]; exact hrs, by omega, by omega⟩ hrow ?_ ?_⟩
              · exact hv.keep (fun b hb => ⟨hb.1, by rw [hsz]; exact hb.2.1, hb.2.2⟩) fun b _ => rfl
              · exact hv2.keep (fun b hb => ⟨hb.1, by rw [hsz]; exact hb.2.1, hb.2.2⟩) fun b _ => rfl
            · exact (((HS9.out.far (by omega) (by omega) _).far (by omega) (by omega) _).far (by omega) (by omega) _).far (by omega) (by omega) _
            · exact grown_new (grown_new (grown_new (grown_new HG9.out (by omega) _) (by omega) _) (by omega) _) (by omega) _
            · omega
            · exact HMO.out)
          go_roundw
          case rel => exact ⟨_, _, _, _, _, _, _, _, _, _, _, _, _, _, ⟨_, _, _, _, _, _, _, _, HNEW.out⟩, rfl⟩
          case measure =>
            rw [HNEW.out.left, HLF.out]
            simp only [Bool.false_eq_true, if_false]
            split <;> omega
    | true =>
      rw [hb] at q2 HSs
      have HR0 : Hid (R0 = rOf l (chainP (implyP n d) [60, 45, 62] 8) s) := Lib.hid (by
        have h := hS.i
        rw [hb] at h
        rw [hR0]
        cases s with
        | on k' => exact absurd h.2.1 (by decide)
        | off e m => rfl)
      clear hS hR0 hb
      go_enter Tryz.func26, Tryz.ntmps26
      go_wp2_with fail
      clear q2 q3 qf2 qf3
      generalize w.alloc (.cells #[.int .i64 0, .string ⟨#[]⟩, .int .i64 0, .slice none 0 0] 28) = wS at HSs HGs HRs ⊢
      obtain ⟨badS, hbS⟩ : ∃ b : Bool, b = true := ⟨_, rfl⟩
      rw [← hbS] at HSs
      clear hbS
      generalize s = s1 at HSs HR0
      generalize deep0 = deepS at HSs
      go_wp2_with fail
      refine (HPR.out wS s1 k0 badS deepS HGs.out HSs.out (Nat.le_refl _)).mono ?_
      rintro e w4 ⟨f, A, cf, k1, bad1, deep1, rfl, hP⟩
      have hs4 := hP.g.size
      have hsw : w.heap.size + 1 ≤ w4.heap.size := by have := HRs.out.lt; omega
      have hbA := stepA w4 (.cells #[.int .i64 f.kind, .string ⟨f.name.toArray⟩, .int .i64 f.lit, .slice A f.kids.length cf] 28)
      have hx : Hid (RcR w pb tb to c l k0 (implyP n d) [60, 45, 62] 8 R0 w4.heap.size (w4.alloc (.cells #[.int .i64 f.kind, .string ⟨f.name.toArray⟩, .int .i64 f.lit, .slice A f.kids.length cf] 28)) f A cf (stOf l (rOf l (implyP n d) s1)) k1 bad1 deep1 (l.length - k1)) := Lib.hid (by
        refine ⟨Blk.new _ _ _, (HRs.out.grown hP.g (by simp; omega)).alloc _, ?_, hP.s.after hbA, grown_trans (grown_trans HGs.out hP.g) (grown_of hbA _), hP.km, ?_⟩
        · refine hP.v.low (B := w4.heap.size) (fun b hb => ?_) hbA
          have := HRs.out.lt
          simp only [World.size_alloc] at hb ⊢
          omega
        · rw [HR0.out]
          exact rc_start rfl hP.f hP.s.i hP.s.k)
      obtain ⟨xf, hxf⟩ : ∃ xf, xf = w4.heap.size := ⟨_, rfl⟩
      have hxw : w.heap.size < xf := by omega
      rw [← hxf] at hx
      clear hP hs4 hbA HRs HGs HSs
      unfold fmA
      go_wp2_with fail
      rw [← hxf]
      generalize w4.alloc (.cells #[.int .i64 f.kind, .string ⟨f.name.toArray⟩, .int .i64 f.lit, .slice A f.kids.length cf] 28) = w5 at hx ⊢
      clear hxf hsw
      go_loopw [] (fun wr => ∃ (f : Fm) (A : Option Addr) (cf : Nat) (st : RS) (k : Nat) (bad deep : Bool) (m : Nat), RcR w pb tb to c l k0 (implyP n d) [60, 45, 62] 8 R0 xf wr f A cf st k bad deep m) (fun wr => leftR wr pb l.length)
      case atStart => exact ⟨f, A, cf, _, k1, bad1, deep1, _, hx.out⟩
      case round =>
        clear hx
        obtain ⟨f, A, cf, st, k, bad, deep, m, hR⟩ := hrel
        have HR := Lib.hid hR
        have HLF := Lib.hid hR.left
        have HIS := Lib.hid (ris_any hR.so [60, 45, 62])
        have hxr := hR.b.lt
        cases hi : isS l st [60, 45, 62] with
        | false =>
          rw [hi] at HIS
          have HI := Lib.hid hi
          clear hR hi
          go_wp2_with fail
          refine HIS.out.mono ?_
          rintro e w6 ⟨rfl, hb6⟩
          have hB6 := HR.out.b.below hb6 hxr
          have hR6 := HR.out.r.below hb6 HR.out.r.lt
          have b0 := hB6.cell 0
          have b1 := hB6.cell 1
          have b2 := hB6.cell 2
          have b3 := hB6.cell 3
          have r0 := hR6.cell 0
          have r1 := hR6.cell 1
          have r2 := hR6.cell 2
          have r3 := hR6.cell 3
          have x0 := hR6.frozen 0
          have x1 := hR6.frozen 1
          have x2 := hR6.frozen 2
          have x3 := hR6.frozen 3
          have HR6 := Lib.hid hR6
          have HB6 := Lib.hid hb6
          clear hB6 hR6 hb6
          go_wp2_with fail
          clear b0 b1 b2 b3 r0 r1 r2 r3 x0 x1 x2 x3
          have hZ := (((HR6.out.set_ 0 (.int .i64 f.kind)).set_ 1 (.string ⟨f.name.toArray⟩)).set_ 2 (.int .i64 f.lit)).set_ 3 (.slice A f.kids.length cf)
          have z0 := hZ.cell 0
          have z1 := hZ.cell 1
          have z2 := hZ.cell 2
          have z3 := hZ.cell 3
          refine bodyPost_ret (v := fmA f A cf) (by simp [fmA, results, Tryz.results26, go_sem, z0, z1, z2, z3]) rfl ?_
          exact rc_end HR.out HI.out (grown_of HB6.out none) (by omega) (by omega)
        | true =>
          obtain ⟨rfl, rfl, rfl, htk⟩ := isS_on hi hR.so.i
          rw [hi] at HIS
          have hkl := hR.so.k
          have hk1' := takes_next hT hkl htk
          have HTK := Lib.hid htk
          have HEE : Hid (l.length - k ≤ m ∧ R0 = chainL (implyP n d) [60, 45, 62] 8 m f (leftT l k)) := Lib.hid (by
            rcases hR.e with ⟨_, h2, h3⟩ | ⟨e, m', h1, _⟩
            · exact ⟨h2, h3⟩
            · cases h1)
          have hwk : (k : Int) + 1 ≤ 30000 := by have := hT.many; omega
          clear hR hi htk
          go_wp2_with fail
          refine HIS.out.mono ?_
          rintro e w6 ⟨rfl, hb6⟩
          have hS6 := HR.out.so.after hb6
          have q1 := Blk.cell hS6.p 1
          have qf := Blk.frozen hS6.p 1
          have HS6' := Lib.hid hS6
          have HB6 := Lib.hid hb6
          clear hS6 hb6
          go_wp2_with fail
          clear q1 qf
          have HS6 := Lib.hid (HS6'.out.next hk1')
          have hgs : wr.grownBy (w6.setCell ⟨pb, 1, none⟩ (.int .i64 ((k : Int) + 1))) (some pb) := grown_set (grown_of HB6.out _) _ _
          clear HS6' HB6
          have hX6 := HR.out.b.grown hgs (by simp; omega)
          have hV6 := HR.out.v.keep (w' := w6.setCell ⟨pb, 1, none⟩ (.int .i64 ((k : Int) + 1))) (Q' := fun b => w.heap.size ≤ b ∧ b < (w6.setCell ⟨pb, 1, none⟩ (.int .i64 ((k : Int) + 1))).heap.size ∧ b ≠ xf ∧ b ≠ w.heap.size) (fun b hb => ⟨hb.1, by have := hgs.size; omega, hb.2.2⟩) (fun b hb => hgs.block b hb.2.1 (by simp; omega))
          have HX6 := Lib.hid hX6
          have HV6 := Lib.hid hV6
          have HR6 := Lib.hid (HR.out.r.grown hgs (by simp; omega))
          have HG6 := Lib.hid (grown_trans HR.out.gr hgs)
          have hx6 := hX6.lt
          have hkm := HR.out.km
          clear hX6 hV6 hgs HR hxr
          generalize w6.setCell ⟨pb, 1, none⟩ (.int .i64 ((k : Int) + 1)) = w7 at HS6 HX6 HV6 HR6 HG6 hx6 ⊢
          have hb7 : Below w7.heap.size w7 w7.drew := stepD1 w7
          have HX7 := Lib.hid (HX6.out.below hb7 hx6)
          have HR7 := Lib.hid (HR6.out.below hb7 HR6.out.lt)
          have HG7 := Lib.hid (grown_trans HG6.out (grown_of hb7 _))
          have hz7 := hb7.size
          have HV7 : Hid (FmVQ w7.drew (fun b => w.heap.size ≤ b ∧ b < (w7.drew).heap.size ∧ b ≠ xf ∧ b ≠ w.heap.size) f A cf) := Lib.hid (HV6.out.low (B := w7.heap.size) (fun b hb => ⟨hb.2.1, hb.1, Nat.lt_of_lt_of_le hb.2.1 hz7, hb.2.2⟩) hb7)
          have HS7 := Lib.hid (HS6.out.after hb7)
          have HC := Lib.hid (HPR.out (w7.drew) (.on (k + 1)) (k + 1) false false HG7.out HS7.out (by omega))
          clear hb7
          refine wp_region_noPanic ?_
          refine wp_region_seq (fun W => W.cell? ⟨xf, 0, none⟩ = some (.int .i64 f.kind) ∧ W.cell? ⟨xf, 1, none⟩ = some (.string ⟨f.name.toArray⟩) ∧ W.cell? ⟨xf, 2, none⟩ = some (.int .i64 f.lit) ∧ W.cell? ⟨xf, 3, none⟩ = some (.slice A f.kids.length cf)) [0, 1, 2, 3, 4, 5] [0, 1, 2] [5] (by kernel_rfl) (by kernel_rfl) rfl (by kernel_rfl) (by kernel_rfl) (fun _ _ _ _ _ h => h) ?_ (fun hSS => ?_)
          · exact ⟨HX7.out.cell 0, HX7.out.cell 1, HX7.out.cell 2, HX7.out.cell 3⟩
          clear hSS
          (refine wpSeq_mov rfl rfl ?_; intro o ho; simp only [List.getElem?_toArray, List.getElem?_cons_zero, List.getElem?_cons_succ, Option.some.injEq] at ho; subst ho; refine ⟨?_, Or.inl ⟨by rfl, fun W hSW => ?_⟩, ?_⟩; rotate_left; (focus (go_simp; first | done | with_reducible rfl)); try simp only [Act.put, List.setIfInBounds_toArray, List.set_cons_zero, List.set_cons_succ])
          (refine wpSeq_mov rfl rfl ?_; intro o ho; simp only [List.getElem?_toArray, List.getElem?_cons_zero, List.getElem?_cons_succ, Option.some.injEq] at ho; subst ho; refine ⟨?_, Or.inl ⟨by rfl, fun W hSW => ?_⟩, ?_⟩; rotate_left; (focus (go_simp; first | done | with_reducible rfl)); try simp only [Act.put, List.setIfInBounds_toArray, List.set_cons_zero, List.set_cons_succ])
          (refine wpSeq_mov rfl rfl ?_; intro o ho; simp only [List.getElem?_toArray, List.getElem?_cons_zero, List.getElem?_cons_succ, Option.some.injEq] at ho; subst ho; refine ⟨?_, Or.inl ⟨by rfl, fun W hSW => ?_⟩, ?_⟩; rotate_left; (focus (go_simp; first | done | with_reducible rfl)); try simp only [Act.put, List.setIfInBounds_toArray, List.set_cons_zero, List.set_cons_succ])
          (refine wpSeq_fix rfl rfl ?_; intro o ho; simp only [List.getElem?_toArray, List.getElem?_cons_zero, List.getElem?_cons_succ, Option.some.injEq] at ho; subst ho; intro K hK)
          go_simp
          generalize w7.drew = W7 at HX7 HR7 HG7 HV7 HS7 HC hz7 ⊢
          refine HC.out.mono ?_
          clear HC
          rintro e w8 ⟨g, B, cg, k2, bad2, deep2, rfl, hP⟩
          have HMO : Hid ((stOf l (rOf l (implyP n d) (.on (k + 1))) = .on k2 ∧ l.length - k2 ≤ m - 1 ∧ R0 = chainL (implyP n d) [60, 45, 62] 8 (m - 1) (.mk 8 [] 0 [f, g]) (leftT l k2)) ∨ (∃ e m', stOf l (rOf l (implyP n d) (.on (k + 1))) = .off e m' ∧ R0 = .bad e m')) := Lib.hid (rc_more HEE.out.1 HEE.out.2 HTK.out hkl rfl hP.f hP.s.k hP.km)
          have HS8 := Lib.hid hP.s
          generalize hr2 : rOf l (implyP n d) (.on (k + 1)) = r2 at HMO HS8
          have hs8 := hP.g.size
          have HX8 := Lib.hid (HX7.out.grown hP.g (by simp; omega))
          have HR8 := Lib.hid (HR7.out.grown hP.g (by simp; omega))
          have HG8 := Lib.hid (grown_trans HG7.out hP.g)
          have HV8 : Hid (FmVQ w8 (fun b => w.heap.size ≤ b ∧ b < w8.heap.size ∧ b ≠ xf ∧ b ≠ w.heap.size) f A cf) := Lib.hid (HV7.out.keep (fun b hb => ⟨hb.1, by have := hb.2.1; omega, hb.2.2⟩) (fun b hb => hP.g.block b hb.2.1 (by simp; omega)))
          have HU8 : Hid (FmVQ w8 (fun b => w.heap.size ≤ b ∧ b < w8.heap.size ∧ b ≠ xf ∧ b ≠ w.heap.size) g B cg) := Lib.hid (hP.v.keep (fun b hb => ⟨by omega, hb.2, by omega, by omega⟩) (fun b _ => rfl))
          have hkm2 := hP.km
          have hk2l := hP.s.k
          clear hP hr2 HEE HTK
          unfold fmA
          (refine hK.out _ _ (fun _ => ⟨HX8.out.cell 0, HX8.out.cell 1, HX8.out.cell 2, HX8.out.cell 3⟩) ?_; clear hK K; try simp only [Act.put, List.setIfInBounds_toArray, List.set_cons_zero, List.set_cons_succ])
          (refine wpSeq_fix rfl rfl ?_; intro o ho; simp only [List.getElem?_toArray, List.getElem?_cons_zero, List.getElem?_cons_succ, Option.some.injEq] at ho; subst ho; intro K hK)
          go_simp
          refine (two_any 8 f g A B cf cg _).mono ?_
          rintro e w9 ⟨bb, rfl, hbb, hRW, hb9⟩
          have hs9 := hb9.size
          have HX9 := Lib.hid (HX8.out.below hb9 HX8.out.lt)
          have HR9 := Lib.hid (HR8.out.below hb9 HR8.out.lt)
          have HG9 := Lib.hid (grown_trans HG8.out (grown_of hb9 _))
          have HS9 := Lib.hid (HS8.out.after hb9)
          have HV9 : Hid (FmVQ w9 (fun b => w.heap.size ≤ b ∧ b < w9.heap.size ∧ b ≠ xf ∧ b ≠ w.heap.size) f A cf) := Lib.hid (HV8.out.low (B := w8.heap.size) (fun b hb => ⟨hb.2.1, hb.1, by omega, hb.2.2⟩) hb9)
          have HU9 : Hid (FmVQ w9 (fun b => w.heap.size ≤ b ∧ b < w9.heap.size ∧ b ≠ xf ∧ b ≠ w.heap.size) g B cg) := Lib.hid (HU8.out.low (B := w8.heap.size) (fun b hb => ⟨hb.2.1, hb.1, by omega, hb.2.2⟩) hb9)
          have HRW9 := Lib.hid hRW
          have hx8l := HX8.out.lt
          clear hb9 hRW
          (refine hK.out _ _ (fun _ => ⟨HX9.out.cell 0, HX9.out.cell 1, HX9.out.cell 2, HX9.out.cell 3⟩) ?_; clear hK K; try simp only [Act.put, List.setIfInBounds_toArray, List.set_cons_zero, List.set_cons_succ])
          have x0 := HX9.out.frozen 0
          have x1 := HX9.out.frozen 1
          have x2 := HX9.out.frozen 2
          have x3 := HX9.out.frozen 3
          have c0 := HX9.out.cell 0
          have c1 := HX9.out.cell 1
          have c2' := HX9.out.cell 2
          have c3 := HX9.out.cell 3
          (refine wpSeq_fix rfl rfl ?_; intro o ho; simp only [List.getElem?_toArray, List.getElem?_cons_zero, List.getElem?_cons_succ, Option.some.injEq] at ho; subst ho; intro K hK)
          go_simp
          (refine hK.out _ _ (fun h => by simp at h) ?_; clear hK K; try simp only [Act.put, List.setIfInBounds_toArray, List.set_cons_zero, List.set_cons_succ])
          refine wpSeq_done ?_
          clear x0 x1 x2 x3 c0 c1 c2' c3
          have HNEW : Hid (RcR w pb tb to c l k0 (implyP n d) [60, 45, 62] 8 R0 xf ((((w9.setCell ⟨xf, 0, none⟩ (.int .i64 8)).setCell ⟨xf, 1, none⟩ (.string ⟨#[]⟩)).setCell ⟨xf, 2, none⟩ (.int .i64 0)).setCell ⟨xf, 3, none⟩ (.slice (some ⟨bb, 0, none⟩) 2 2)) (.mk 8 [] 0 [f, g]) (some ⟨bb, 0, none⟩) 2 (stOf l r2) k2 bad2 deep2 (m - 1)) := Lib.hid (by
            have hq : ∀ b, (w.heap.size ≤ b ∧ b < w9.heap.size ∧ b ≠ xf ∧ b ≠ w.heap.size) → b ≠ xf := fun b h => h.2.2.1
            have hv := (((HV9.out.far (i := 0) hq (.int .i64 8)).far (i := 1) hq (.string ⟨#[]⟩)).far (i := 2) hq (.int .i64 0)).far (i := 3) hq (.slice (some ⟨bb, 0, none⟩) 2 2)
            have hv2 := (((HU9.out.far (i := 0) hq (.int .i64 8)).far (i := 1) hq (.string ⟨#[]⟩)).far (i := 2) hq (.int .i64 0)).far (i := 3) hq (.slice (some ⟨bb, 0, none⟩) 2 2)
            have hrow := (((HRW9.out.far (p := ⟨xf, 0, none⟩) (by dsimp only; omega) (.int .i64 8)).far (p := ⟨xf, 1, none⟩) (by dsimp only; omega) (.string ⟨#[]⟩)).far (p := ⟨xf, 2, none⟩) (by dsimp only; omega) (.int .i64 0)).far (p := ⟨xf, 3, none⟩) (by dsimp only; omega) (.slice (some ⟨bb, 0, none⟩) 2 2)
            have hsz : ((((w9.setCell ⟨xf, 0, none⟩ (.int .i64 8)).setCell ⟨xf, 1, none⟩ (.string ⟨#[]⟩)).setCell ⟨xf, 2, none⟩ (.int .i64 0)).setCell ⟨xf, 3, none⟩ (.slice (some ⟨bb, 0, none⟩) 2 2)).heap.size = w9.heap.size := by simp [World.setCell]
            have hrs := HRW9.out.lt
            refine ⟨(((HX9.out.set_ 0 (.int .i64 8)).set_ 1 (.string ⟨#[]⟩)).set_ 2 (.int .i64 0)).set_ 3 (.slice (some ⟨bb, 0, none⟩) 2 2), ?_, ?_, ?_, ?_, ?_, ?_⟩
            · exact (((HR9.out.far (p := ⟨xf, 0, none⟩) (by dsimp only; omega) _).far (p := ⟨xf, 1, none⟩) (by dsimp only; omega) _).far (p := ⟨xf, 2, none⟩) (by dsimp only; omega) _).far (p := ⟨xf, 3, none⟩) (by dsimp only; omega) _
            · refine ⟨by simp [Fm.kids], by simp [Fm.kids], by simp [Fm.kind], by simp [Fm.name], FmQ.two ⟨by omega, by rw [hsz]; exact hrs, by omega, by omega⟩ hrow ?_ ?_⟩
              · exact hv.keep (fun b hb => ⟨hb.1, by rw [hsz]; exact hb.2.1, hb.2.2⟩) fun b _ => rfl
              · exact hv2.keep (fun b hb => ⟨hb.1, by rw [hsz]; exact hb.2.1, hb.2.2⟩) fun b _ => rfl
            · exact (((HS9.out.far (by omega) (by omega) _).far (by omega) (by omega) _).far (by omega) (by omega) _).far (by omega) (by omega) _
            · exact grown_new (grown_new (grown_new (grown_new HG9.out (by omega) _) (by omega) _) (by omega) _) (by omega) _
            · omega
            · exact HMO.out)
          go_roundw
          case rel => exact ⟨_, _, _, _, _, _, _, _, _, _, _, _, _, _, ⟨_, _, _, _, _, _, _, _, HNEW.out⟩, rfl⟩
          case measure =>
            rw [HNEW.out.left, HLF.out]
            simp only [Bool.false_eq_true, if_false]
            split <;> omega
  · have HR0 : Hid (R0 = rOf l (chainP (implyP n d) [60, 45, 62] 8) s) := Lib.hid (by
      rw [hR0]
      cases s with
      | on k' =>
        show wholeP (n + 1) d (leftT l k') = chainP (implyP n d) [60, 45, 62] 8 (leftT l k')
        rw [wholeP, if_neg hd]
      | off e m => rfl)
    have hd' : d ≤ 200 := by omega
    clear hS hR0 hd
    go_enter Tryz.func26, Tryz.ntmps26
    go_wp2_with fail
    clear q2 q3 qf2 qf3
    generalize w.alloc (.cells #[.int .i64 0, .string ⟨#[]⟩, .int .i64 0, .slice none 0 0] 28) = wS at HSs HGs HRs ⊢
    generalize s = s1 at HSs HR0
    generalize bad0 = badS at HSs
    generalize deep0 = deepS at HSs
    go_wp2_with fail
    refine (HPR.out wS s1 k0 badS deepS HGs.out HSs.out (Nat.le_refl _)).mono ?_
    rintro e w4 ⟨f, A, cf, k1, bad1, deep1, rfl, hP⟩
    have hs4 := hP.g.size
    have hsw : w.heap.size + 1 ≤ w4.heap.size := by have := HRs.out.lt; omega
    have hbA := stepA w4 (.cells #[.int .i64 f.kind, .string ⟨f.name.toArray⟩, .int .i64 f.lit, .slice A f.kids.length cf] 28)
    have hx : Hid (RcR w pb tb to c l k0 (implyP n d) [60, 45, 62] 8 R0 w4.heap.size (w4.alloc (.cells #[.int .i64 f.kind, .string ⟨f.name.toArray⟩, .int .i64 f.lit, .slice A f.kids.length cf] 28)) f A cf (stOf l (rOf l (implyP n d) s1)) k1 bad1 deep1 (l.length - k1)) := Lib.hid (by
      refine ⟨Blk.new _ _ _, (HRs.out.grown hP.g (by simp; omega)).alloc _, ?_, hP.s.after hbA, grown_trans (grown_trans HGs.out hP.g) (grown_of hbA _), hP.km, ?_⟩
      · refine hP.v.low (B := w4.heap.size) (fun b hb => ?_) hbA
        have := HRs.out.lt
        simp only [World.size_alloc] at hb ⊢
        omega
      · rw [HR0.out]
        exact rc_start rfl hP.f hP.s.i hP.s.k)
    obtain ⟨xf, hxf⟩ : ∃ xf, xf = w4.heap.size := ⟨_, rfl⟩
    have hxw : w.heap.size < xf := by omega
    rw [← hxf] at hx
    clear hP hs4 hbA HRs HGs HSs
    unfold fmA
    go_wp2_with fail
    rw [← hxf]
    generalize w4.alloc (.cells #[.int .i64 f.kind, .string ⟨f.name.toArray⟩, .int .i64 f.lit, .slice A f.kids.length cf] 28) = w5 at hx ⊢
    clear hxf hsw
    go_loopw [] (fun wr => ∃ (f : Fm) (A : Option Addr) (cf : Nat) (st : RS) (k : Nat) (bad deep : Bool) (m : Nat), RcR w pb tb to c l k0 (implyP n d) [60, 45, 62] 8 R0 xf wr f A cf st k bad deep m) (fun wr => leftR wr pb l.length)
    case atStart => exact ⟨f, A, cf, _, k1, bad1, deep1, _, hx.out⟩
    case round =>
      clear hx
      obtain ⟨f, A, cf, st, k, bad, deep, m, hR⟩ := hrel
      have HR := Lib.hid hR
      have HLF := Lib.hid hR.left
      have HIS := Lib.hid (ris_any hR.so [60, 45, 62])
      have hxr := hR.b.lt
      cases hi : isS l st [60, 45, 62] with
      | false =>
        rw [hi] at HIS
        have HI := Lib.hid hi
        clear hR hi
        go_wp2_with fail
        refine HIS.out.mono ?_
        rintro e w6 ⟨rfl, hb6⟩
        have hB6 := HR.out.b.below hb6 hxr
        have hR6 := HR.out.r.below hb6 HR.out.r.lt
        have b0 := hB6.cell 0
        have b1 := hB6.cell 1
        have b2 := hB6.cell 2
        have b3 := hB6.cell 3
        have r0 := hR6.cell 0
        have r1 := hR6.cell 1
        have r2 := hR6.cell 2
        have r3 := hR6.cell 3
        have x0 := hR6.frozen 0
        have x1 := hR6.frozen 1
        have x2 := hR6.frozen 2
        have x3 := hR6.frozen 3
        have HR6 := Lib.hid hR6
        have HB6 := Lib.hid hb6
        clear hB6 hR6 hb6
        go_wp2_with fail
        clear b0 b1 b2 b3 r0 r1 r2 r3 x0 x1 x2 x3
        have hZ := (((HR6.out.set_ 0 (.int .i64 f.kind)).set_ 1 (.string ⟨f.name.toArray⟩)).set_ 2 (.int .i64 f.lit)).set_ 3 (.slice A f.kids.length cf)
        have z0 := hZ.cell 0
        have z1 := hZ.cell 1
        have z2 := hZ.cell 2
        have z3 := hZ.cell 3
        refine bodyPost_ret (v := fmA f A cf) (by simp [fmA, results, Tryz.results26, go_sem, z0, z1, z2, z3]) rfl ?_
        exact rc_end HR.out HI.out (grown_of HB6.out none) (by omega) (by omega)
      | true =>
        obtain ⟨rfl, rfl, rfl, htk⟩ := isS_on hi hR.so.i
        rw [hi] at HIS
        have hkl := hR.so.k
        have hk1' := takes_next hT hkl htk
        have HTK := Lib.hid htk
        have HEE : Hid (l.length - k ≤ m ∧ R0 = chainL (implyP n d) [60, 45, 62] 8 m f (leftT l k)) := Lib.hid (by
          rcases hR.e with ⟨_, h2, h3⟩ | ⟨e, m', h1, _⟩
          · exact ⟨h2, h3⟩
          · cases h1)
        have hwk : (k : Int) + 1 ≤ 30000 := by have := hT.many; omega
        clear hR hi htk
        go_wp2_with fail
        refine HIS.out.mono ?_
        rintro e w6 ⟨rfl, hb6⟩
        have hS6 := HR.out.so.after hb6
        have q1 := Blk.cell hS6.p 1
        have qf := Blk.frozen hS6.p 1
        have HS6' := Lib.hid hS6
        have HB6 := Lib.hid hb6
        clear hS6 hb6
        go_wp2_with fail
        clear q1 qf
        have HS6 := Lib.hid (HS6'.out.next hk1')
        have hgs : wr.grownBy (w6.setCell ⟨pb, 1, none⟩ (.int .i64 ((k : Int) + 1))) (some pb) := grown_set (grown_of HB6.out _) _ _
        clear HS6' HB6
        have hX6 := HR.out.b.grown hgs (by simp; omega)
        have hV6 := HR.out.v.keep (w' := w6.setCell ⟨pb, 1, none⟩ (.int .i64 ((k : Int) + 1))) (Q' := fun b => w.heap.size ≤ b ∧ b < (w6.setCell ⟨pb, 1, none⟩ (.int .i64 ((k : Int) + 1))).heap.size ∧ b ≠ xf ∧ b ≠ w.heap.size) (fun b hb => ⟨hb.1, by have := hgs.size; omega, hb.2.2⟩) (fun b hb => hgs.block b hb.2.1 (by simp; omega))
        have HX6 := Lib.hid hX6
        have HV6 := Lib.hid hV6
        have HR6 := Lib.hid (HR.out.r.grown hgs (by simp; omega))
        have HG6 := Lib.hid (grown_trans HR.out.gr hgs)
        have hx6 := hX6.lt
        have hkm := HR.out.km
        clear hX6 hV6 hgs HR hxr
        generalize w6.setCell ⟨pb, 1, none⟩ (.int .i64 ((k : Int) + 1)) = w7 at HS6 HX6 HV6 HR6 HG6 hx6 ⊢
        have hb7 : Below w7.heap.size w7 w7.drew := stepD1 w7
        have HX7 := Lib.hid (HX6.out.below hb7 hx6)
        have HR7 := Lib.hid (HR6.out.below hb7 HR6.out.lt)
        have HG7 := Lib.hid (grown_trans HG6.out (grown_of hb7 _))
        have hz7 := hb7.size
        have HV7 : Hid (FmVQ w7.drew (fun b => w.heap.size ≤ b ∧ b < (w7.drew).heap.size ∧ b ≠ xf ∧ b ≠ w.heap.size) f A cf) := Lib.hid (HV6.out.low (B := w7.heap.size) (fun b hb => ⟨hb.2.1, hb.1, Nat.lt_of_lt_of_le hb.2.1 hz7, hb.2.2⟩) hb7)
        have HS7 := Lib.hid (HS6.out.after hb7)
        have HC := Lib.hid (HPR.out (w7.drew) (.on (k + 1)) (k + 1) false false HG7.out HS7.out (by omega))
        clear hb7
        refine wp_region_noPanic ?_
        refine wp_region_seq (fun W => W.cell? ⟨xf, 0, none⟩ = some (.int .i64 f.kind) ∧ W.cell? ⟨xf, 1, none⟩ = some (.string ⟨f.name.toArray⟩) ∧ W.cell? ⟨xf, 2, none⟩ = some (.int .i64 f.lit) ∧ W.cell? ⟨xf, 3, none⟩ = some (.slice A f.kids.length cf)) [0, 1, 2, 3, 4, 5] [0, 1, 2] [5] (by kernel_rfl) (by kernel_rfl) rfl (by kernel_rfl) (by kernel_rfl) (fun _ _ _ _ _ h => h) ?_ (fun hSS => ?_)
        · exact ⟨HX7.out.cell 0, HX7.out.cell 1, HX7.out.cell 2, HX7.out.cell 3⟩
        clear hSS
        (refine wpSeq_mov rfl rfl ?_; intro o ho; simp only [List.getElem?_toArray, List.getElem?_cons_zero, List.getElem?_cons_succ, Option.some.injEq] at ho; subst ho; refine ⟨?_, Or.inl ⟨by rfl, fun W hSW => ?_⟩, ?_⟩; rotate_left; (focus (go_simp; first | done | with_reducible rfl)); try simp only [Act.put, List.setIfInBounds_toArray, List.set_cons_zero, List.set_cons_succ])
        (refine wpSeq_mov rfl rfl ?_; intro o ho; simp only [List.getElem?_toArray, List.getElem?_cons_zero, List.getElem?_cons_succ, Option.some.injEq] at ho; subst ho; refine ⟨?_, Or.inl ⟨by rfl, fun W hSW => ?_⟩, ?_⟩; rotate_left; (focus (go_simp; first | done | with_reducible rfl)); try simp only [Act.put, List.setIfInBounds_toArray, List.set_cons_zero, List.set_cons_succ])
        (refine wpSeq_mov rfl rfl ?_; intro o ho; simp only [List.getElem?_toArray, List.getElem?_cons_zero, List.getElem?_cons_succ, Option.some.injEq] at ho; subst ho; refine ⟨?_, Or.inl ⟨by rfl, fun W hSW => ?_⟩, ?_⟩; rotate_left; (focus (go_simp; first | done | with_reducible rfl)); try simp only [Act.put, List.setIfInBounds_toArray, List.set_cons_zero, List.set_cons_succ])
        (refine wpSeq_fix rfl rfl ?_; intro o ho; simp only [List.getElem?_toArray, List.getElem?_cons_zero, List.getElem?_cons_succ, Option.some.injEq] at ho; subst ho; intro K hK)
        go_simp
        generalize w7.drew = W7 at HX7 HR7 HG7 HV7 HS7 HC hz7 ⊢
        refine HC.out.mono ?_
        clear HC
        rintro e w8 ⟨g, B, cg, k2, bad2, deep2, rfl, hP⟩
        have HMO : Hid ((stOf l (rOf l (implyP n d) (.on (k + 1))) = .on k2 ∧ l.length - k2 ≤ m - 1 ∧ R0 = chainL (implyP n d) [60, 45, 62] 8 (m - 1) (.mk 8 [] 0 [f, g]) (leftT l k2)) ∨ (∃ e m', stOf l (rOf l (implyP n d) (.on (k + 1))) = .off e m' ∧ R0 = .bad e m')) := Lib.hid (rc_more HEE.out.1 HEE.out.2 HTK.out hkl rfl hP.f hP.s.k hP.km)
        have HS8 := Lib.hid hP.s
        generalize hr2 : rOf l (implyP n d) (.on (k + 1)) = r2 at HMO HS8
        have hs8 := hP.g.size
        have HX8 := Lib.hid (HX7.out.grown hP.g (by simp; omega))
        have HR8 := Lib.hid (HR7.out.grown hP.g (by simp; omega))
        have HG8 := Lib.hid (grown_trans HG7.out hP.g)
        have HV8 : Hid (FmVQ w8 (fun b => w.heap.size ≤ b ∧ b < w8.heap.size ∧ b ≠ xf ∧ b ≠ w.heap.size) f A cf) := Lib.hid (HV7.out.keep (fun b hb => ⟨hb.1, by have := hb.2.1; omega, hb.2.2⟩) (fun b hb => hP.g.block b hb.2.1 (by simp; omega)))
        have HU8 : Hid (FmVQ w8 (fun b => w.heap.size ≤ b ∧ b < w8.heap.size ∧ b ≠ xf ∧ b ≠ w.heap.size) g B cg) := Lib.hid (hP.v.keep (fun b hb => ⟨by omega, hb.2, by omega, by omega⟩) (fun b _ => rfl))
        have hkm2 := hP.km
        have hk2l := hP.s.k
        clear hP hr2 HEE HTK
        unfold fmA
        (refine hK.out _ _ (fun _ => ⟨HX8.out.cell 0, HX8.out.cell 1, HX8.out.cell 2, HX8.out.cell 3⟩) ?_; clear hK K; try simp only [Act.put, List.setIfInBounds_toArray, List.set_cons_zero, List.set_cons_succ])
        (refine wpSeq_fix rfl rfl ?_; intro o ho; simp only [List.getElem?_toArray, List.getElem?_cons_zero, List.getElem?_cons_succ, Option.some.injEq] at ho; subst ho; intro K hK)
        go_simp
        refine (two_any 8 f g A B cf cg _).mono ?_
        rintro e w9 ⟨bb, rfl, hbb, hRW, hb9⟩
        have hs9 := hb9.size
        have HX9 := Lib.hid (HX8.out.below hb9 HX8.out.lt)
        have HR9 := Lib.hid (HR8.out.below hb9 HR8.out.lt)
        have HG9 := Lib.hid (grown_trans HG8.out (grown_of hb9 _))
        have HS9 := Lib.hid (HS8.out.after hb9)
        have HV9 : Hid (FmVQ w9 (fun b => w.heap.size ≤ b ∧ b < w9.heap.size ∧ b ≠ xf ∧ b ≠ w.heap.size) f A cf) := Lib.hid (HV8.out.low (B := w8.heap.size) (fun b hb => ⟨hb.2.1, hb.1, by omega, hb.2.2⟩) hb9)
        have HU9 : Hid (FmVQ w9 (fun b => w.heap.size ≤ b ∧ b < w9.heap.size ∧ b ≠ xf ∧ b ≠ w.heap.size) g B cg) := Lib.hid (HU8.out.low (B := w8.heap.size) (fun b hb => ⟨hb.2.1, hb.1, by omega, hb.2.2⟩) hb9)
        have HRW9 := Lib.hid hRW
        have hx8l := HX8.out.lt
        clear hb9 hRW
        (refine hK.out _ _ (fun _ => ⟨HX9.out.cell 0, HX9.out.cell 1, HX9.out.cell 2, HX9.out.cell 3⟩) ?_; clear hK K; try simp only [Act.put, List.setIfInBounds_toArray, List.set_cons_zero, List.set_cons_succ])
        have x0 := HX9.out.frozen 0
        have x1 := HX9.out.frozen 1
        have x2 := HX9.out.frozen 2
        have x3 := HX9.out.frozen 3
        have c0 := HX9.out.cell 0
        have c1 := HX9.out.cell 1
        have c2' := HX9.out.cell 2
        have c3 := HX9.out.cell 3
        (refine wpSeq_fix rfl rfl ?_; intro o ho; simp only [List.getElem?_toArray, List.getElem?_cons_zero, List.getElem?_cons_succ, Option.some.injEq] at ho; subst ho; intro K hK)
        go_simp
        (refine hK.out _ _ (fun h => by simp at h) ?_; clear hK K; try simp only [Act.put, List.setIfInBounds_toArray, List.set_cons_zero, List.set_cons_succ])
        refine wpSeq_done ?_
        clear x0 x1 x2 x3 c0 c1 c2' c3
        have HNEW : Hid (RcR w pb tb to c l k0 (implyP n d) [60, 45, 62] 8 R0 xf ((((w9.setCell ⟨xf, 0, none⟩ (.int .i64 8)).setCell ⟨xf, 1, none⟩ (.string ⟨#[]⟩)).setCell ⟨xf, 2, none⟩ (.int .i64 0)).setCell ⟨xf, 3, none⟩ (.slice (some ⟨bb, 0, none⟩) 2 2)) (.mk 8 [] 0 [f, g]) (some ⟨bb, 0, none⟩) 2 (stOf l r2) k2 bad2 deep2 (m - 1)) := Lib.hid (by
          have hq : ∀ b, (w.heap.size ≤ b ∧ b < w9.heap.size ∧ b ≠ xf ∧ b ≠ w.heap.size) → b ≠ xf := fun b h => h.2.2.1
          have hv := (((HV9.out.far (i := 0) hq (.int .i64 8)).far (i := 1) hq (.string ⟨#[]⟩)).far (i := 2) hq (.int .i64 0)).far (i := 3) hq (.slice (some ⟨bb, 0, none⟩) 2 2)
          have hv2 := (((HU9.out.far (i := 0) hq (.int .i64 8)).far (i := 1) hq (.string ⟨#[]⟩)).far (i := 2) hq (.int .i64 0)).far (i := 3) hq (.slice (some ⟨bb, 0, none⟩) 2 2)
          have hrow := (((HRW9.out.far (p := ⟨xf, 0, none⟩) (by dsimp only; omega) (.int .i64 8)).far (p := ⟨xf, 1, none⟩) (by dsimp only; omega) (.string ⟨#[]⟩)).far (p := ⟨xf, 2, none⟩) (by dsimp only; omega) (.int .i64 0)).far (p := ⟨xf, 3, none⟩) (by dsimp only; omega) (.slice (some ⟨bb, 0, none⟩) 2 2)
          have hsz : ((((w9.setCell ⟨xf, 0, none⟩ (.int .i64 8)).setCell ⟨xf, 1, none⟩ (.string ⟨#[]⟩)).setCell ⟨xf, 2, none⟩ (.int .i64 0)).setCell ⟨xf, 3, none⟩ (.slice (some ⟨bb, 0, none⟩) 2 2)).heap.size = w9.heap.size := by simp [World.setCell]
          have hrs := HRW9.out.lt
          refine ⟨(((HX9.out.set_ 0 (.int .i64 8)).set_ 1 (.string ⟨#[]⟩)).set_ 2 (.int .i64 0)).set_ 3 (.slice (some ⟨bb, 0, none⟩) 2 2), ?_, ?_, ?_, ?_, ?_, ?_⟩
          · exact (((HR9.out.far (p := ⟨xf, 0, none⟩) (by dsimp only; omega) _).far (p := ⟨xf, 1, none⟩) (by dsimp only; omega) _).far (p := ⟨xf, 2, none⟩) (by dsimp only; omega) _).far (p := ⟨xf, 3, none⟩) (by dsimp only; omega) _
          · refine ⟨by simp [Fm.kids], by simp [Fm.kids], by simp [Fm.kind], by simp [Fm.name], FmQ.two ⟨by omega, by rw [hsz]; exact hrs, by omega, by omega⟩ hrow ?_ ?_⟩
            · exact hv.keep (fun b hb => ⟨hb.1, by rw [hsz]; exact hb.2.1, hb.2.2⟩) fun b _ => rfl
            · exact hv2.keep (fun b hb => ⟨hb.1, by rw [hsz]; exact hb.2.1, hb.2.2⟩) fun b _ => rfl
          · exact (((HS9.out.far (by omega) (by omega) _).far (by omega) (by omega) _).far (by omega) (by omega) _).far (by omega) (by omega) _
          · exact grown_new (grown_new (grown_new (grown_new HG9.out (by omega) _) (by omega) _) (by omega) _) (by omega) _
          · omega
          · exact HMO.out)
        go_roundw
        case rel => exact ⟨_, _, _, _, _, _, _, _, _, _, _, _, _, _, ⟨_, _, _, _, _, _, _, _, HNEW.out⟩, rfl⟩
        case measure =>
          rw [HNEW.out.left, HLF.out]
          simp only [Bool.false_eq_true, if_false]
          split <;> omega
set_option maxRecDepth 100000 in
set_option maxHeartbeats 4000000 in
theorem rchain2 (n : Nat) (d : Int) (hPC : RPartC n) {w : World} {pb tb to c k : Nat} {l : List Tk} (hT : ToksOk l) (hd0 : 0 ≤ d) (hd1 : d + ((l.length - k : Nat) : Int) ≤ 30000) (hn : 3 * (l.length - k) + 1 ≤ n) :
    PartsR 57 #[.pointer (some ⟨pb, 0, none⟩), .int .i64 2, .int .i64 d] w pb tb to c l k (partP n d) := by
  intro W s k' bad deep hg hS hk
  have hb0 := stepA W (.cells #[.int .i64 0, .string ⟨#[]⟩, .int .i64 0, .slice none 0 0] 28)
  have HR0 := Lib.hid (Blk.new W 28 #[.int .i64 0, .string ⟨#[]⟩, .int .i64 0, .slice none 0 0])
  have HG0 := Lib.hid (grown_of hb0 (some pb))
  have HS0 := Lib.hid (hS.after hb0)
  have hpl := hS.lt
  have htl := hS.t.lt
  have HC := Lib.hid (hPC _ pb tb to c k' l s bad deep d hT HS0.out hd0 (by omega) (by omega))
  clear hb0 hS hg hPC
  go_enter Tryz.func57, Tryz.ntmps57
  go_wp2_with fail
  have hw1 : (W.alloc (.cells #[.int .i64 0, .string ⟨#[]⟩, .int .i64 0, .slice none 0 0] 28)).heap.size = W.heap.size + 1 := World.size_alloc _ _
  generalize W.alloc (.cells #[.int .i64 0, .string ⟨#[]⟩, .int .i64 0, .slice none 0 0] 28) = w1 at HR0 HG0 HS0 HC hw1 ⊢
  refine HC.out.mono ?_
  clear HC
  rintro e w9 ⟨f, A, cf, k2, bad2, deep2, rfl, hP⟩
  have HR9 := Lib.hid (HR0.out.grown hP.g (by simp; omega))
  have HP9 := Lib.hid hP
  clear hP
  unfold fmA
  have y0 := HR9.out.cell 0
  have y1 := HR9.out.cell 1
  have y2 := HR9.out.cell 2
  have y3 := HR9.out.cell 3
  have x0 := HR9.out.frozen 0
  have x1 := HR9.out.frozen 1
  have x2 := HR9.out.frozen 2
  have x3 := HR9.out.frozen 3
  go_wp2_with fail
  clear x0 x1 x2 x3 y0 y1 y2 y3
  have hZ := (((HR9.out.set_ 0 (.int .i64 f.kind)).set_ 1 (.string ⟨f.name.toArray⟩)).set_ 2 (.int .i64 f.lit)).set_ 3 (.slice A f.kids.length cf)
  have z0 := hZ.cell 0
  have z1 := hZ.cell 1
  have z2 := hZ.cell 2
  have z3 := hZ.cell 3
  refine bodyPost_ret (v := fmA f A cf) (by simp [fmA, results, Tryz.results57, go_sem, z0, z1, z2, z3]) rfl ?_

  exact rs_finish (xr := W.heap.size) HG0.out (by omega) (by omega) HP9.out (by omega) (by omega) (by omega)
set_option maxRecDepth 100000 in
set_option maxHeartbeats 8000000 in
theorem rchain1 (n : Nat) (d : Int) (hPC : RPartC n) {w0 : World} {pb tb to c k00 : Nat} {l : List Tk} (hT : ToksOk l) (hd0 : 0 ≤ d) (hd1 : d + ((l.length - k00 : Nat) : Int) ≤ 30000) (hn : 3 * (l.length - k00) + 1 ≤ n) :
    PartsR 57 #[.pointer (some ⟨pb, 0, none⟩), .int .i64 1, .int .i64 d] w0 pb tb to c l k00 (chainP (partP n d) [38] 5) := by
  intro w s1 k0 badS deepS hg hS hk0
  have hpl := hS.lt
  have htl := hS.t.lt
  have hbA := stepA w (.cells #[.int .i64 0, .string ⟨#[]⟩, .int .i64 0, .slice none 0 0] 28)
  have hbB := stepA (w.alloc (.cells #[.int .i64 0, .string ⟨#[]⟩, .int .i64 0, .slice none 0 0] 28)) (.cells #[.string ⟨#[124]⟩, .string ⟨#[38]⟩] 9)
  have HRs := Lib.hid ((Blk.new w 28 #[.int .i64 0, .string ⟨#[]⟩, .int .i64 0, .slice none 0 0]).alloc (.cells #[.string ⟨#[124]⟩, .string ⟨#[38]⟩] 9))
  have HGs := Lib.hid (grown_of (step2 hbA hbB) (some pb))
  have HSs := Lib.hid (hS.after (step2 hbA hbB))
  have HPR : Hid (PartsR 57 #[.pointer (some ⟨pb, 0, none⟩), .int .i64 2, .int .i64 d] w pb tb to c l k0 (partP n d)) := Lib.hid (rchain2 n d hPC hT hd0 (by omega) (by omega))
  obtain ⟨R0, hR0⟩ : ∃ R0, R0 = rOf l (chainP (partP n d) [38] 5) s1 := ⟨_, rfl⟩
  rw [← hR0]
  have HR0 := Lib.hid hR0
  clear hbA hbB hPC hS hg hR0
  go_enter Tryz.func57, Tryz.ntmps57
  go_wp2_with fail
  generalize (w.alloc (.cells #[.int .i64 0, .string ⟨#[]⟩, .int .i64 0, .slice none 0 0] 28)).alloc (.cells #[.string ⟨#[124]⟩, .string ⟨#[38]⟩] 9) = wS at HSs HGs HRs ⊢
  go_wp2_with fail
  refine (HPR.out wS s1 k0 badS deepS HGs.out HSs.out (Nat.le_refl _)).mono ?_
  rintro e w4 ⟨f, A, cf, k1, bad1, deep1, rfl, hP⟩
  have hs4 := hP.g.size
  have hsw : w.heap.size + 1 ≤ w4.heap.size := by have := HRs.out.lt; omega
  have hbA := stepA w4 (.cells #[.int .i64 f.kind, .string ⟨f.name.toArray⟩, .int .i64 f.lit, .slice A f.kids.length cf] 28)
  have hx : Hid (RcR w pb tb to c l k0 (partP n d) [38] 5 R0 w4.heap.size (w4.alloc (.cells #[.int .i64 f.kind, .string ⟨f.name.toArray⟩, .int .i64 f.lit, .slice A f.kids.length cf] 28)) f A cf (stOf l (rOf l (partP n d) s1)) k1 bad1 deep1 (l.length - k1)) := Lib.hid (by
    refine ⟨Blk.new _ _ _, (HRs.out.grown hP.g (by simp; omega)).alloc _, ?_, hP.s.after hbA, grown_trans (grown_trans HGs.out hP.g) (grown_of hbA _), hP.km, ?_⟩
    · refine hP.v.low (B := w4.heap.size) (fun b hb => ?_) hbA
      have := HRs.out.lt
      simp only [World.size_alloc] at hb ⊢
      omega
    · rw [HR0.out]
      exact rc_start rfl hP.f hP.s.i hP.s.k)
  obtain ⟨xf, hxf⟩ : ∃ xf, xf = w4.heap.size := ⟨_, rfl⟩
  have hxw : w.heap.size < xf := by omega
  rw [← hxf] at hx
  clear hP hs4 hbA HRs HGs HSs
  unfold fmA
  go_wp2_with fail
  rw [← hxf]
  generalize w4.alloc (.cells #[.int .i64 f.kind, .string ⟨f.name.toArray⟩, .int .i64 f.lit, .slice A f.kids.length cf] 28) = w5 at hx ⊢
  clear hxf hsw
  go_loopw [] (fun wr => ∃ (f : Fm) (A : Option Addr) (cf : Nat) (st : RS) (k : Nat) (bad deep : Bool) (m : Nat), RcR w pb tb to c l k0 (partP n d) [38] 5 R0 xf wr f A cf st k bad deep m) (fun wr => leftR wr pb l.length)
  case atStart => exact ⟨f, A, cf, _, k1, bad1, deep1, _, hx.out⟩
  case round =>
    clear hx
    obtain ⟨f, A, cf, st, k, bad, deep, m, hR⟩ := hrel
    have HR := Lib.hid hR
    have HLF := Lib.hid hR.left
    have HIS := Lib.hid (ris_any hR.so [38])
    have hxr := hR.b.lt
    cases hi : isS l st [38] with
    | false =>
      rw [hi] at HIS
      have HI := Lib.hid hi
      clear hR hi
      go_wp2_with fail
      refine HIS.out.mono ?_
      rintro e w6 ⟨rfl, hb6⟩
      have hB6 := HR.out.b.below hb6 hxr
      have hR6 := HR.out.r.below hb6 HR.out.r.lt
      have b0 := hB6.cell 0
      have b1 := hB6.cell 1
      have b2 := hB6.cell 2
      have b3 := hB6.cell 3
      have r0 := hR6.cell 0
      have r1 := hR6.cell 1
      have r2 := hR6.cell 2
      have r3 := hR6.cell 3
      have x0 := hR6.frozen 0
      have x1 := hR6.frozen 1
      have x2 := hR6.frozen 2
      have x3 := hR6.frozen 3
      have HR6 := Lib.hid hR6
      have HB6 := Lib.hid hb6
      clear hB6 hR6 hb6
      go_wp2_with fail
      clear b0 b1 b2 b3 r0 r1 r2 r3 x0 x1 x2 x3
      have hZ := (((HR6.out.set_ 0 (.int .i64 f.kind)).set_ 1 (.string ⟨f.name.toArray⟩)).set_ 2 (.int .i64 f.lit)).set_ 3 (.slice A f.kids.length cf)
      have z0 := hZ.cell 0
      have z1 := hZ.cell 1
      have z2 := hZ.cell 2
      have z3 := hZ.cell 3
      refine bodyPost_ret (v := fmA f A cf) (by simp [fmA, results, Tryz.results57, go_sem, z0, z1, z2, z3]) rfl ?_
      exact rc_end HR.out HI.out (grown_of HB6.out none) (by omega) (by omega)
    | true =>
      obtain ⟨rfl, rfl, rfl, htk⟩ := isS_on hi hR.so.i
      rw [hi] at HIS
      have hkl := hR.so.k
      have hk1' := takes_next hT hkl htk
      have HTK := Lib.hid htk
      have HEE : Hid (l.length - k ≤ m ∧ R0 = chainL (partP n d) [38] 5 m f (leftT l k)) := Lib.hid (by
        rcases hR.e with ⟨_, h2, h3⟩ | ⟨e, m', h1, _⟩
        · exact ⟨h2, h3⟩
        · cases h1)
      have hwk : (k : Int) + 1 ≤ 30000 := by have := hT.many; omega
      clear hR hi htk
      go_wp2_with fail
      refine HIS.out.mono ?_
      rintro e w6 ⟨rfl, hb6⟩
      have hS6 := HR.out.so.after hb6
      have q1 := Blk.cell hS6.p 1
      have qf := Blk.frozen hS6.p 1
      have HS6' := Lib.hid hS6
      have HB6 := Lib.hid hb6
      clear hS6 hb6
      go_wp2_with fail
      clear q1 qf
      have HS6 := Lib.hid (HS6'.out.next hk1')
      have hgs : wr.grownBy (w6.setCell ⟨pb, 1, none⟩ (.int .i64 ((k : Int) + 1))) (some pb) := grown_set (grown_of HB6.out _) _ _
      clear HS6' HB6
      have hX6 := HR.out.b.grown hgs (by simp; omega)
      have hV6 := HR.out.v.keep (w' := w6.setCell ⟨pb, 1, none⟩ (.int .i64 ((k : Int) + 1))) (Q' := fun b => w.heap.size ≤ b ∧ b < (w6.setCell ⟨pb, 1, none⟩ (.int .i64 ((k : Int) + 1))).heap.size ∧ b ≠ xf ∧ b ≠ w.heap.size) (fun b hb => ⟨hb.1, by have := hgs.size; omega, hb.2.2⟩) (fun b hb => hgs.block b hb.2.1 (by simp; omega))
      have HX6 := Lib.hid hX6
      have HV6 := Lib.hid hV6
      have HR6 := Lib.hid (HR.out.r.grown hgs (by simp; omega))
      have HG6 := Lib.hid (grown_trans HR.out.gr hgs)
      have hx6 := hX6.lt
      have hkm := HR.out.km
      clear hX6 hV6 hgs HR hxr
      generalize w6.setCell ⟨pb, 1, none⟩ (.int .i64 ((k : Int) + 1)) = w7 at HS6 HX6 HV6 HR6 HG6 hx6 ⊢
      have hX7d := HX6.out.drew
      refine wp_region_noPanic ?_
      refine wp_region_tree (fun W => W.cell? ⟨xf, 0, none⟩ = some (.int .i64 f.kind) ∧ W.cell? ⟨xf, 1, none⟩ = some (.string ⟨f.name.toArray⟩) ∧ W.cell? ⟨xf, 2, none⟩ = some (.int .i64 f.lit) ∧ W.cell? ⟨xf, 3, none⟩ = some (.slice A f.kids.length cf)) (fun _ => True) (.step 1 (.step 4 (.step 5 (.step 6 (.step 7 (.step 8 (.fork 0 (.step 2 (.fork 3 (.step 9 (.step 10 (.step 11 .done))) 9 (.step 3 (.step 10 (.step 11 .done))))) 9 (.step 0 (.step 2 (.step 3 (.step 10 (.step 11 .done)))))))))))) [1, 2, 4, 5, 6, 7, 8] [] [11] [] (by kernel_rfl) (by kernel_rfl) rfl (by kernel_rfl) (by kernel_rfl) (by kernel_rfl) (fun _ _ _ _ _ h => h) ?_ (fun hSS hRR => ?_)
      · exact ⟨⟨hX7d.cell 0, hX7d.cell 1, hX7d.cell 2, hX7d.cell 3⟩, trivial⟩
      clear hSS hRR hX7d
      have hbd := stepD1 w7
      have hzd := hbd.size
      replace HX6 := Lib.hid (HX6.out.below hbd hx6)
      replace HR6 := Lib.hid (HR6.out.below hbd HR6.out.lt)
      replace HG6 := Lib.hid (grown_trans HG6.out (grown_of hbd _))
      replace HV6 : Hid (FmVQ w7.drew (fun b => w.heap.size ≤ b ∧ b < w7.drew.heap.size ∧ b ≠ xf ∧ b ≠ w.heap.size) f A cf) := Lib.hid (HV6.out.low (B := w7.heap.size) (fun b hb => ⟨hb.2.1, hb.1, Nat.lt_of_lt_of_le hb.2.1 hzd, hb.2.2⟩) hbd)
      replace HS6 := Lib.hid (HS6.out.after hbd)
      have hx6d := Nat.lt_of_lt_of_le hx6 hzd
      clear hbd hzd hx6
      generalize w7.drew = v7 at HX6 HR6 HG6 HV6 HS6 hx6d ⊢
      have hx6 := hx6d
      clear hx6d
      have hw2 : IntKind.i64.wrap 2 = 2 := rfl
      (refine wpTree_mov rfl rfl ?_; intro o ho; simp only [List.getElem?_toArray, List.getElem?_cons_zero, List.getElem?_cons_succ, Option.some.injEq] at ho; subst ho; refine ⟨?_, Or.inl ⟨by rfl, fun W hSW => ?_⟩, ?_⟩; rotate_left; (focus (go_simp; first | done | with_reducible rfl)); try simp only [Act.put, List.setIfInBounds_toArray, List.set_cons_zero, List.set_cons_succ])
      (refine wpTree_mov rfl rfl ?_; intro o ho; simp only [List.getElem?_toArray, List.getElem?_cons_zero, List.getElem?_cons_succ, Option.some.injEq] at ho; subst ho; refine ⟨?_, Or.inl ⟨by rfl, fun W hSW => ?_⟩, ?_⟩; rotate_left; (focus (go_simp; first | done | with_reducible rfl)); try simp only [Act.put, List.setIfInBounds_toArray, List.set_cons_zero, List.set_cons_succ])
      (refine wpTree_mov rfl rfl ?_; intro o ho; simp only [List.getElem?_toArray, List.getElem?_cons_zero, List.getElem?_cons_succ, Option.some.injEq] at ho; subst ho; refine ⟨?_, Or.inl ⟨by rfl, fun W hSW => ?_⟩, ?_⟩; rotate_left; (focus (go_simp; first | done | with_reducible rfl)); try simp only [Act.put, List.setIfInBounds_toArray, List.set_cons_zero, List.set_cons_succ])
      (refine wpTree_mov rfl rfl ?_; intro o ho; simp only [List.getElem?_toArray, List.getElem?_cons_zero, List.getElem?_cons_succ, Option.some.injEq] at ho; subst ho; refine ⟨?_, Or.inl ⟨by rfl, fun W hSW => ?_⟩, ?_⟩; rotate_left; (focus (go_simp; first | done | with_reducible rfl)); try simp only [Act.put, List.setIfInBounds_toArray, List.set_cons_zero, List.set_cons_succ])
      (refine wpTree_mov rfl rfl ?_; intro o ho; simp only [List.getElem?_toArray, List.getElem?_cons_zero, List.getElem?_cons_succ, Option.some.injEq] at ho; subst ho; refine ⟨?_, Or.inl ⟨by rfl, fun W hSW => ?_⟩, ?_⟩; rotate_left; (focus (go_simp; first | done | with_reducible rfl)); try simp only [Act.put, List.setIfInBounds_toArray, List.set_cons_zero, List.set_cons_succ])
      (refine wpTree_mov rfl rfl ?_; intro o ho; simp only [List.getElem?_toArray, List.getElem?_cons_zero, List.getElem?_cons_succ, Option.some.injEq] at ho; subst ho; refine ⟨?_, Or.inl ⟨by rfl, fun W hSW => ?_⟩, ?_⟩; rotate_left; (focus (go_simp; first | done | with_reducible rfl)); try simp only [Act.put, List.setIfInBounds_toArray, List.set_cons_zero, List.set_cons_succ])
      refine wpTree_fork ?_ ?_
      · skip
        (refine fixW_of rfl ?_; intro o ho; simp only [List.getElem?_toArray, List.getElem?_cons_zero, List.getElem?_cons_succ, Option.some.injEq] at ho; subst ho; intro K hK)
        go_simp
        have HRK := Lib.hid (Blk.new v7 3 #[.int .i64 6, .int .i64 5])
        have hb7 : Below v7.heap.size v7 (v7.alloc (.cells #[.int .i64 6, .int .i64 5] 3)) := stepA v7 _
        have HX7 := Lib.hid (HX6.out.below hb7 hx6)
        have HR7 := Lib.hid (HR6.out.below hb7 HR6.out.lt)
        have HG7 := Lib.hid (grown_trans HG6.out (grown_of hb7 _))
        have hz7 := hb7.size
        have HV7 : Hid (FmVQ (v7.alloc (.cells #[.int .i64 6, .int .i64 5] 3)) (fun b => w.heap.size ≤ b ∧ b < ((v7.alloc (.cells #[.int .i64 6, .int .i64 5] 3))).heap.size ∧ b ≠ xf ∧ b ≠ w.heap.size) f A cf) := Lib.hid (HV6.out.low (B := v7.heap.size) (fun b hb => ⟨hb.2.1, hb.1, Nat.lt_of_lt_of_le hb.2.1 hz7, hb.2.2⟩) hb7)
        have HS7 := Lib.hid (HS6.out.after hb7)
        have HC := Lib.hid (HPR.out ((v7.alloc (.cells #[.int .i64 6, .int .i64 5] 3))) (.on (k + 1)) (k + 1) false false HG7.out HS7.out (by omega))
        clear hb7
        have hrkl := HRK.out.lt
        (refine hK.out _ _ (fun _ _ => ⟨HX7.out.cell 0, HX7.out.cell 1, HX7.out.cell 2, HX7.out.cell 3⟩) (fun _ _ => trivial) ?_; clear hK K; try simp only [Act.put, List.setIfInBounds_toArray, List.set_cons_zero, List.set_cons_succ])
        generalize v7.alloc (.cells #[.int .i64 6, .int .i64 5] 3) = W7 at HX7 HR7 HG7 HV7 HS7 HC HRK hz7 hrkl ⊢
        clear HX6 HR6 HG6 HV6 HS6
        (refine wpTree_mov rfl rfl ?_; intro o ho; simp only [List.getElem?_toArray, List.getElem?_cons_zero, List.getElem?_cons_succ, Option.some.injEq] at ho; subst ho; refine ⟨?_, Or.inl ⟨by rfl, fun W hSW => ?_⟩, ?_⟩; rotate_left; (focus (go_simp; first | done | with_reducible rfl)); try simp only [Act.put, List.setIfInBounds_toArray, List.set_cons_zero, List.set_cons_succ])
        refine wpTree_fork ?_ ?_
        · have rk0 := HRK.out.cell 1
          (refine fixW_of rfl ?_; intro o ho; simp only [List.getElem?_toArray, List.getElem?_cons_zero, List.getElem?_cons_succ, Option.some.injEq] at ho; subst ho; intro K hK)
          go_simp
          (refine hK.out _ _ (fun _ _ => ⟨HX7.out.cell 0, HX7.out.cell 1, HX7.out.cell 2, HX7.out.cell 3⟩) (fun _ _ => trivial) ?_; clear hK K; try simp only [Act.put, List.setIfInBounds_toArray, List.set_cons_zero, List.set_cons_succ])
          clear rk0
          (refine wpTree_fix rfl rfl rfl ?_; intro o ho; simp only [List.getElem?_toArray, List.getElem?_cons_zero, List.getElem?_cons_succ, Option.some.injEq] at ho; subst ho; intro K hK)
          go_simp
          refine HC.out.mono ?_
          clear HC
          rintro e w8 ⟨g, B, cg, k2, bad2, deep2, rfl, hP⟩
          have HMO : Hid ((stOf l (rOf l (partP n d) (.on (k + 1))) = .on k2 ∧ l.length - k2 ≤ m - 1 ∧ R0 = chainL (partP n d) [38] 5 (m - 1) (.mk 5 [] 0 [f, g]) (leftT l k2)) ∨ (∃ e m', stOf l (rOf l (partP n d) (.on (k + 1))) = .off e m' ∧ R0 = .bad e m')) := Lib.hid (rc_more HEE.out.1 HEE.out.2 HTK.out hkl rfl hP.f hP.s.k hP.km)
          have HS8 := Lib.hid hP.s
          generalize hr2 : rOf l (partP n d) (.on (k + 1)) = r2 at HMO HS8
          have hs8 := hP.g.size
          have HX8 := Lib.hid (HX7.out.grown hP.g (by simp; omega))
          have HR8 := Lib.hid (HR7.out.grown hP.g (by simp; omega))
          have HG8 := Lib.hid (grown_trans HG7.out hP.g)
          have HV8 : Hid (FmVQ w8 (fun b => w.heap.size ≤ b ∧ b < w8.heap.size ∧ b ≠ xf ∧ b ≠ w.heap.size) f A cf) := Lib.hid (HV7.out.keep (fun b hb => ⟨hb.1, by have := hb.2.1; omega, hb.2.2⟩) (fun b hb => hP.g.block b hb.2.1 (by simp; omega)))
          have HU8 : Hid (FmVQ w8 (fun b => w.heap.size ≤ b ∧ b < w8.heap.size ∧ b ≠ xf ∧ b ≠ w.heap.size) g B cg) := Lib.hid (hP.v.keep (fun b hb => ⟨by omega, hb.2, by omega, by omega⟩) (fun b _ => rfl))
          have hkm2 := hP.km
          have hk2l := hP.s.k
          clear hP hr2 HEE HTK
          unfold fmA
          (refine hK.out _ _ (fun _ _ => ⟨HX8.out.cell 0, HX8.out.cell 1, HX8.out.cell 2, HX8.out.cell 3⟩) (fun _ _ => trivial) ?_; clear hK K; try simp only [Act.put, List.setIfInBounds_toArray, List.set_cons_zero, List.set_cons_succ])
          (refine wpTree_fix rfl rfl rfl ?_; intro o ho; simp only [List.getElem?_toArray, List.getElem?_cons_zero, List.getElem?_cons_succ, Option.some.injEq] at ho; subst ho; intro K hK)
          go_simp
          refine (two_any 5 f g A B cf cg _).mono ?_
          rintro e w9 ⟨bb, rfl, hbb, hRW, hb9⟩
          have hs9 := hb9.size
          have HX9 := Lib.hid (HX8.out.below hb9 HX8.out.lt)
          have HR9 := Lib.hid (HR8.out.below hb9 HR8.out.lt)
          have HG9 := Lib.hid (grown_trans HG8.out (grown_of hb9 _))
          have HS9 := Lib.hid (HS8.out.after hb9)
          have HV9 : Hid (FmVQ w9 (fun b => w.heap.size ≤ b ∧ b < w9.heap.size ∧ b ≠ xf ∧ b ≠ w.heap.size) f A cf) := Lib.hid (HV8.out.low (B := w8.heap.size) (fun b hb => ⟨hb.2.1, hb.1, by omega, hb.2.2⟩) hb9)
          have HU9 : Hid (FmVQ w9 (fun b => w.heap.size ≤ b ∧ b < w9.heap.size ∧ b ≠ xf ∧ b ≠ w.heap.size) g B cg) := Lib.hid (HU8.out.low (B := w8.heap.size) (fun b hb => ⟨hb.2.1, hb.1, by omega, hb.2.2⟩) hb9)
          have HRW9 := Lib.hid hRW
          have hx8l := HX8.out.lt
          clear hb9 hRW
          (refine hK.out _ _ (fun _ _ => ⟨HX9.out.cell 0, HX9.out.cell 1, HX9.out.cell 2, HX9.out.cell 3⟩) (fun _ _ => trivial) ?_; clear hK K; try simp only [Act.put, List.setIfInBounds_toArray, List.set_cons_zero, List.set_cons_succ])
          have x0 := HX9.out.frozen 0
          have x1 := HX9.out.frozen 1
          have x2 := HX9.out.frozen 2
          have x3 := HX9.out.frozen 3
          have c0 := HX9.out.cell 0
          have c1 := HX9.out.cell 1
          have c2' := HX9.out.cell 2
          have c3 := HX9.out.cell 3
          (refine wpTree_fix rfl rfl rfl ?_; intro o ho; simp only [List.getElem?_toArray, List.getElem?_cons_zero, List.getElem?_cons_succ, Option.some.injEq] at ho; subst ho; intro K hK)
          go_simp
          (refine hK.out _ _ (fun h => by simp at h) (fun _ _ => trivial) ?_; clear hK K; try simp only [Act.put, List.setIfInBounds_toArray, List.set_cons_zero, List.set_cons_succ])
          refine wpTree_done ?_
          clear x0 x1 x2 x3 c0 c1 c2' c3
          have HNEW : Hid (RcR w pb tb to c l k0 (partP n d) [38] 5 R0 xf ((((w9.setCell ⟨xf, 0, none⟩ (.int .i64 5)).setCell ⟨xf, 1, none⟩ (.string ⟨#[]⟩)).setCell ⟨xf, 2, none⟩ (.int .i64 0)).setCell ⟨xf, 3, none⟩ (.slice (some ⟨bb, 0, none⟩) 2 2)) (.mk 5 [] 0 [f, g]) (some ⟨bb, 0, none⟩) 2 (stOf l r2) k2 bad2 deep2 (m - 1)) := Lib.hid (by
            have hq : ∀ b, (w.heap.size ≤ b ∧ b < w9.heap.size ∧ b ≠ xf ∧ b ≠ w.heap.size) → b ≠ xf := fun b h => h.2.2.1
            have hv := (((HV9.out.far (i := 0) hq (.int .i64 5)).far (i := 1) hq (.string ⟨#[]⟩)).far (i := 2) hq (.int .i64 0)).far (i := 3) hq (.slice (some ⟨bb, 0, none⟩) 2 2)
            have hv2 := (((HU9.out.far (i := 0) hq (.int .i64 5)).far (i := 1) hq (.string ⟨#[]⟩)).far (i := 2) hq (.int .i64 0)).far (i := 3) hq (.slice (some ⟨bb, 0, none⟩) 2 2)
            have hrow := (((HRW9.out.far (p := ⟨xf, 0, none⟩) (by dsimp only; omega) (.int .i64 5)).far (p := ⟨xf, 1, none⟩) (by dsimp only; omega) (.string ⟨#[]⟩)).far (p := ⟨xf, 2, none⟩) (by dsimp only; omega) (.int .i64 0)).far (p := ⟨xf, 3, none⟩) (by dsimp only; omega) (.slice (some ⟨bb, 0, none⟩) 2 2)
            have hsz : ((((w9.setCell ⟨xf, 0, none⟩ (.int .i64 5)).setCell ⟨xf, 1, none⟩ (.string ⟨#[]⟩)).setCell ⟨xf, 2, none⟩ (.int .i64 0)).setCell ⟨xf, 3, none⟩ (.slice (some ⟨bb, 0, none⟩) 2 2)).heap.size = w9.heap.size := by simp [World.setCell]
            have hrs := HRW9.out.lt
            refine ⟨(((HX9.out.set_ 0 (.int .i64 5)).set_ 1 (.string ⟨#[]⟩)).set_ 2 (.int .i64 0)).set_ 3 (.slice (some ⟨bb, 0, none⟩) 2 2), ?_, ?_, ?_, ?_, ?_, ?_⟩
            · exact (((HR9.out.far (p := ⟨xf, 0, none⟩) (by dsimp only; omega) _).far (p := ⟨xf, 1, none⟩) (by dsimp only; omega) _).far (p := ⟨xf, 2, none⟩) (by dsimp only; omega) _).far (p := ⟨xf, 3, none⟩) (by dsimp only; omega) _
            · refine ⟨by simp [Fm.kids], by simp [Fm.kids], by simp [Fm.kind], by simp [Fm.name], FmQ.two ⟨by omega, by rw [hsz]; exact hrs, by omega, by omega⟩ hrow ?_ ?_⟩
              · exact hv.keep (fun b hb => ⟨hb.1, by rw [hsz]; exact hb.2.1, hb.2.2⟩) fun b _ => rfl
              · exact hv2.keep (fun b hb => ⟨hb.1, by rw [hsz]; exact hb.2.1, hb.2.2⟩) fun b _ => rfl
            · exact (((HS9.out.far (by omega) (by omega) _).far (by omega) (by omega) _).far (by omega) (by omega) _).far (by omega) (by omega) _
            · exact grown_new (grown_new (grown_new (grown_new HG9.out (by omega) _) (by omega) _) (by omega) _) (by omega) _
            · omega
            · exact HMO.out)
          go_roundw
          case rel => exact ⟨_, _, _, _, _, _, _, _, _, _, _, _, _, _, _, _, _, _, _, _, _, ⟨_, _, _, _, _, _, _, _, HNEW.out⟩, rfl⟩
          case measure =>
            rw [HNEW.out.left, HLF.out]
            simp only [Bool.false_eq_true, if_false]
            split <;> omega
        · skip
          (refine fixW_of rfl ?_; intro o ho; simp only [List.getElem?_toArray, List.getElem?_cons_zero, List.getElem?_cons_succ, Option.some.injEq] at ho; subst ho; intro K hK)
          go_simp
          refine HC.out.mono ?_
          clear HC
          rintro e w8 ⟨g, B, cg, k2, bad2, deep2, rfl, hP⟩
          have HRK8 := Lib.hid (HRK.out.grown hP.g (by simp; omega))
          have HMO : Hid ((stOf l (rOf l (partP n d) (.on (k + 1))) = .on k2 ∧ l.length - k2 ≤ m - 1 ∧ R0 = chainL (partP n d) [38] 5 (m - 1) (.mk 5 [] 0 [f, g]) (leftT l k2)) ∨ (∃ e m', stOf l (rOf l (partP n d) (.on (k + 1))) = .off e m' ∧ R0 = .bad e m')) := Lib.hid (rc_more HEE.out.1 HEE.out.2 HTK.out hkl rfl hP.f hP.s.k hP.km)
          have HS8 := Lib.hid hP.s
          generalize hr2 : rOf l (partP n d) (.on (k + 1)) = r2 at HMO HS8
          have hs8 := hP.g.size
          have HX8 := Lib.hid (HX7.out.grown hP.g (by simp; omega))
          have HR8 := Lib.hid (HR7.out.grown hP.g (by simp; omega))
          have HG8 := Lib.hid (grown_trans HG7.out hP.g)
          have HV8 : Hid (FmVQ w8 (fun b => w.heap.size ≤ b ∧ b < w8.heap.size ∧ b ≠ xf ∧ b ≠ w.heap.size) f A cf) := Lib.hid (HV7.out.keep (fun b hb => ⟨hb.1, by have := hb.2.1; omega, hb.2.2⟩) (fun b hb => hP.g.block b hb.2.1 (by simp; omega)))
          have HU8 : Hid (FmVQ w8 (fun b => w.heap.size ≤ b ∧ b < w8.heap.size ∧ b ≠ xf ∧ b ≠ w.heap.size) g B cg) := Lib.hid (hP.v.keep (fun b hb => ⟨by omega, hb.2, by omega, by omega⟩) (fun b _ => rfl))
          have hkm2 := hP.km
          have hk2l := hP.s.k
          clear hP hr2 HEE HTK
          unfold fmA
          (refine hK.out _ _ (fun _ _ => ⟨HX8.out.cell 0, HX8.out.cell 1, HX8.out.cell 2, HX8.out.cell 3⟩) (fun _ _ => trivial) ?_; clear hK K; try simp only [Act.put, List.setIfInBounds_toArray, List.set_cons_zero, List.set_cons_succ])
          have rk0 := HRK8.out.cell 1
          (refine wpTree_fix rfl rfl rfl ?_; intro o ho; simp only [List.getElem?_toArray, List.getElem?_cons_zero, List.getElem?_cons_succ, Option.some.injEq] at ho; subst ho; intro K hK)
          go_simp
          (refine hK.out _ _ (fun _ _ => ⟨HX8.out.cell 0, HX8.out.cell 1, HX8.out.cell 2, HX8.out.cell 3⟩) (fun _ _ => trivial) ?_; clear hK K; try simp only [Act.put, List.setIfInBounds_toArray, List.set_cons_zero, List.set_cons_succ])
          clear rk0
          (refine wpTree_fix rfl rfl rfl ?_; intro o ho; simp only [List.getElem?_toArray, List.getElem?_cons_zero, List.getElem?_cons_succ, Option.some.injEq] at ho; subst ho; intro K hK)
          go_simp
          refine (two_any 5 f g A B cf cg _).mono ?_
          rintro e w9 ⟨bb, rfl, hbb, hRW, hb9⟩
          have hs9 := hb9.size
          have HX9 := Lib.hid (HX8.out.below hb9 HX8.out.lt)
          have HR9 := Lib.hid (HR8.out.below hb9 HR8.out.lt)
          have HG9 := Lib.hid (grown_trans HG8.out (grown_of hb9 _))
          have HS9 := Lib.hid (HS8.out.after hb9)
          have HV9 : Hid (FmVQ w9 (fun b => w.heap.size ≤ b ∧ b < w9.heap.size ∧ b ≠ xf ∧ b ≠ w.heap.size) f A cf) := Lib.hid (HV8.out.low (B := w8.heap.size) (fun b hb => ⟨hb.2.1, hb.1, by omega, hb.2.2⟩) hb9)
          have HU9 : Hid (FmVQ w9 (fun b => w.heap.size ≤ b ∧ b < w9.heap.size ∧ b ≠ xf ∧ b ≠ w.heap.size) g B cg) := Lib.hid (HU8.out.low (B := w8.heap.size) (fun b hb => ⟨hb.2.1, hb.1, by omega, hb.2.2⟩) hb9)
          have HRW9 := Lib.hid hRW
          have hx8l := HX8.out.lt
          clear hb9 hRW
          (refine hK.out _ _ (fun _ _ => ⟨HX9.out.cell 0, HX9.out.cell 1, HX9.out.cell 2, HX9.out.cell 3⟩) (fun _ _ => trivial) ?_; clear hK K; try simp only [Act.put, List.setIfInBounds_toArray, List.set_cons_zero, List.set_cons_succ])
          have x0 := HX9.out.frozen 0
          have x1 := HX9.out.frozen 1
          have x2 := HX9.out.frozen 2
          have x3 := HX9.out.frozen 3
          have c0 := HX9.out.cell 0
          have c1 := HX9.out.cell 1
          have c2' := HX9.out.cell 2
          have c3 := HX9.out.cell 3
          (refine wpTree_fix rfl rfl rfl ?_; intro o ho; simp only [List.getElem?_toArray, List.getElem?_cons_zero, List.getElem?_cons_succ, Option.some.injEq] at ho; subst ho; intro K hK)
          go_simp
          (refine hK.out _ _ (fun h => by simp at h) (fun _ _ => trivial) ?_; clear hK K; try simp only [Act.put, List.setIfInBounds_toArray, List.set_cons_zero, List.set_cons_succ])
          refine wpTree_done ?_
          clear x0 x1 x2 x3 c0 c1 c2' c3
          have HNEW : Hid (RcR w pb tb to c l k0 (partP n d) [38] 5 R0 xf ((((w9.setCell ⟨xf, 0, none⟩ (.int .i64 5)).setCell ⟨xf, 1, none⟩ (.string ⟨#[]⟩)).setCell ⟨xf, 2, none⟩ (.int .i64 0)).setCell ⟨xf, 3, none⟩ (.slice (some ⟨bb, 0, none⟩) 2 2)) (.mk 5 [] 0 [f, g]) (some ⟨bb, 0, none⟩) 2 (stOf l r2) k2 bad2 deep2 (m - 1)) := Lib.hid (by
            have hq : ∀ b, (w.heap.size ≤ b ∧ b < w9.heap.size ∧ b ≠ xf ∧ b ≠ w.heap.size) → b ≠ xf := fun b h => h.2.2.1
            have hv := (((HV9.out.far (i := 0) hq (.int .i64 5)).far (i := 1) hq (.string ⟨#[]⟩)).far (i := 2) hq (.int .i64 0)).far (i := 3) hq (.slice (some ⟨bb, 0, none⟩) 2 2)
            have hv2 := (((HU9.out.far (i := 0) hq (.int .i64 5)).far (i := 1) hq (.string ⟨#[]⟩)).far (i := 2) hq (.int .i64 0)).far (i := 3) hq (.slice (some ⟨bb, 0, none⟩) 2 2)
            have hrow := (((HRW9.out.far (p := ⟨xf, 0, none⟩) (by dsimp only; omega) (.int .i64 5)).far (p := ⟨xf, 1, none⟩) (by dsimp only; omega) (.string ⟨#[]⟩)).far (p := ⟨xf, 2, none⟩) (by dsimp only; omega) (.int .i64 0)).far (p := ⟨xf, 3, none⟩) (by dsimp only; omega) (.slice (some ⟨bb, 0, none⟩) 2 2)
            have hsz : ((((w9.setCell ⟨xf, 0, none⟩ (.int .i64 5)).setCell ⟨xf, 1, none⟩ (.string ⟨#[]⟩)).setCell ⟨xf, 2, none⟩ (.int .i64 0)).setCell ⟨xf, 3, none⟩ (.slice (some ⟨bb, 0, none⟩) 2 2)).heap.size = w9.heap.size := by simp [World.setCell]
            have hrs := HRW9.out.lt
            refine ⟨(((HX9.out.set_ 0 (.int .i64 5)).set_ 1 (.string ⟨#[]⟩)).set_ 2 (.int .i64 0)).set_ 3 (.slice (some ⟨bb, 0, none⟩) 2 2), ?_, ?_, ?_, ?_, ?_, ?_⟩
            · exact (((HR9.out.far (p := ⟨xf, 0, none⟩) (by dsimp only; omega) _).far (p := ⟨xf, 1, none⟩) (by dsimp only; omega) _).far (p := ⟨xf, 2, none⟩) (by dsimp only; omega) _).far (p := ⟨xf, 3, none⟩) (by dsimp only; omega) _
            · refine ⟨by simp [Fm.kids], by simp [Fm.kids], by simp [Fm.kind], by simp [Fm.name], FmQ.two ⟨by omega, by rw [hsz]; exact hrs, by omega, by omega⟩ hrow ?_ ?_⟩
              · exact hv.keep (fun b hb => ⟨hb.1, by rw [hsz]; exact hb.2.1, hb.2.2⟩) fun b _ => rfl
              · exact hv2.keep (fun b hb => ⟨hb.1, by rw [hsz]; exact hb.2.1, hb.2.2⟩) fun b _ => rfl
            · exact (((HS9.out.far (by omega) (by omega) _).far (by omega) (by omega) _).far (by omega) (by omega) _).far (by omega) (by omega) _
            · exact grown_new (grown_new (grown_new (grown_new HG9.out (by omega) _) (by omega) _) (by omega) _) (by omega) _
            · omega
            · exact HMO.out)
          go_roundw
          case rel => exact ⟨_, _, _, _, _, _, _, _, _, _, _, _, _, _, _, _, _, _, _, _, _, ⟨_, _, _, _, _, _, _, _, HNEW.out⟩, rfl⟩
          case measure =>
            rw [HNEW.out.left, HLF.out]
            simp only [Bool.false_eq_true, if_false]
            split <;> omega
      · skip
        (refine fixW_of rfl ?_; intro o ho; simp only [List.getElem?_toArray, List.getElem?_cons_zero, List.getElem?_cons_succ, Option.some.injEq] at ho; subst ho; intro K hK)
        go_simp
        have HX7 := HX6
        have HR7 := HR6
        have HG7 := HG6
        have HV7 := HV6
        have HS7 := HS6
        have hz7 : v7.heap.size ≤ v7.heap.size := Nat.le_refl _
        have HC := Lib.hid (HPR.out v7 (.on (k + 1)) (k + 1) false false HG7.out HS7.out (by omega))
        refine HC.out.mono ?_
        clear HC
        rintro e w8 ⟨g, B, cg, k2, bad2, deep2, rfl, hP⟩
        have HMO : Hid ((stOf l (rOf l (partP n d) (.on (k + 1))) = .on k2 ∧ l.length - k2 ≤ m - 1 ∧ R0 = chainL (partP n d) [38] 5 (m - 1) (.mk 5 [] 0 [f, g]) (leftT l k2)) ∨ (∃ e m', stOf l (rOf l (partP n d) (.on (k + 1))) = .off e m' ∧ R0 = .bad e m')) := Lib.hid (rc_more HEE.out.1 HEE.out.2 HTK.out hkl rfl hP.f hP.s.k hP.km)
        have HS8 := Lib.hid hP.s
        generalize hr2 : rOf l (partP n d) (.on (k + 1)) = r2 at HMO HS8
        have hs8 := hP.g.size
        have HX8 := Lib.hid (HX7.out.grown hP.g (by simp; omega))
        have HR8 := Lib.hid (HR7.out.grown hP.g (by simp; omega))
        have HG8 := Lib.hid (grown_trans HG7.out hP.g)
        have HV8 : Hid (FmVQ w8 (fun b => w.heap.size ≤ b ∧ b < w8.heap.size ∧ b ≠ xf ∧ b ≠ w.heap.size) f A cf) := Lib.hid (HV7.out.keep (fun b hb => ⟨hb.1, by have := hb.2.1; omega, hb.2.2⟩) (fun b hb => hP.g.block b hb.2.1 (by simp; omega)))
        have HU8 : Hid (FmVQ w8 (fun b => w.heap.size ≤ b ∧ b < w8.heap.size ∧ b ≠ xf ∧ b ≠ w.heap.size) g B cg) := Lib.hid (hP.v.keep (fun b hb => ⟨by omega, hb.2, by omega, by omega⟩) (fun b _ => rfl))
        have hkm2 := hP.km
        have hk2l := hP.s.k
        clear hP hr2 HEE HTK
        unfold fmA
        (refine hK.out _ _ (fun _ _ => ⟨HX8.out.cell 0, HX8.out.cell 1, HX8.out.cell 2, HX8.out.cell 3⟩) (fun _ _ => trivial) ?_; clear hK K; try simp only [Act.put, List.setIfInBounds_toArray, List.set_cons_zero, List.set_cons_succ])
        have HRK := Lib.hid (Blk.new w8 3 #[.int .i64 6, .int .i64 5])
        have hb8 := stepA w8 (.cells #[.int .i64 6, .int .i64 5] 3)
        have hz8 := hb8.size
        replace HV8 : Hid (FmVQ (w8.alloc (.cells #[.int .i64 6, .int .i64 5] 3)) (fun b => w.heap.size ≤ b ∧ b < (w8.alloc (.cells #[.int .i64 6, .int .i64 5] 3)).heap.size ∧ b ≠ xf ∧ b ≠ w.heap.size) f A cf) := Lib.hid (HV8.out.low (B := w8.heap.size) (fun b hb => ⟨hb.2.1, hb.1, Nat.lt_of_lt_of_le hb.2.1 hz8, hb.2.2⟩) hb8)
        replace HU8 : Hid (FmVQ (w8.alloc (.cells #[.int .i64 6, .int .i64 5] 3)) (fun b => w.heap.size ≤ b ∧ b < (w8.alloc (.cells #[.int .i64 6, .int .i64 5] 3)).heap.size ∧ b ≠ xf ∧ b ≠ w.heap.size) g B cg) := Lib.hid (HU8.out.low (B := w8.heap.size) (fun b hb => ⟨hb.2.1, hb.1, Nat.lt_of_lt_of_le hb.2.1 hz8, hb.2.2⟩) hb8)
        replace HX8 := Lib.hid (HX8.out.alloc (.cells #[.int .i64 6, .int .i64 5] 3))
        replace HR8 := Lib.hid (HR8.out.alloc (.cells #[.int .i64 6, .int .i64 5] 3))
        replace HG8 := Lib.hid (grown_trans HG8.out (grown_of hb8 _))
        replace HS8 := Lib.hid (HS8.out.after hb8)
        (refine wpTree_fix rfl rfl rfl ?_; intro o ho; simp only [List.getElem?_toArray, List.getElem?_cons_zero, List.getElem?_cons_succ, Option.some.injEq] at ho; subst ho; intro K hK)
        go_simp
        (refine hK.out _ _ (fun _ _ => ⟨HX8.out.cell 0, HX8.out.cell 1, HX8.out.cell 2, HX8.out.cell 3⟩) (fun _ _ => trivial) ?_; clear hK K; try simp only [Act.put, List.setIfInBounds_toArray, List.set_cons_zero, List.set_cons_succ])
        generalize hgen : w8.alloc (.cells #[.int .i64 6, .int .i64 5] 3) = W8 at HX8 HR8 HG8 HS8 HV8 HU8 HRK hz8 hb8 ⊢
        clear hgen hb8
        (refine wpTree_mov rfl rfl ?_; intro o ho; simp only [List.getElem?_toArray, List.getElem?_cons_zero, List.getElem?_cons_succ, Option.some.injEq] at ho; subst ho; refine ⟨?_, Or.inl ⟨by rfl, fun W hSW => ?_⟩, ?_⟩; rotate_left; (focus (go_simp; first | done | with_reducible rfl)); try simp only [Act.put, List.setIfInBounds_toArray, List.set_cons_zero, List.set_cons_succ])
        have rk0 := HRK.out.cell 1
        (refine wpTree_fix rfl rfl rfl ?_; intro o ho; simp only [List.getElem?_toArray, List.getElem?_cons_zero, List.getElem?_cons_succ, Option.some.injEq] at ho; subst ho; intro K hK)
        go_simp
        (refine hK.out _ _ (fun _ _ => ⟨HX8.out.cell 0, HX8.out.cell 1, HX8.out.cell 2, HX8.out.cell 3⟩) (fun _ _ => trivial) ?_; clear hK K; try simp only [Act.put, List.setIfInBounds_toArray, List.set_cons_zero, List.set_cons_succ])
        clear rk0
        (refine wpTree_fix rfl rfl rfl ?_; intro o ho; simp only [List.getElem?_toArray, List.getElem?_cons_zero, List.getElem?_cons_succ, Option.some.injEq] at ho; subst ho; intro K hK)
        go_simp
        refine (two_any 5 f g A B cf cg _).mono ?_
        rintro e w9 ⟨bb, rfl, hbb, hRW, hb9⟩
        have hs9 := hb9.size
        have HX9 := Lib.hid (HX8.out.below hb9 HX8.out.lt)
        have HR9 := Lib.hid (HR8.out.below hb9 HR8.out.lt)
        have HG9 := Lib.hid (grown_trans HG8.out (grown_of hb9 _))
        have HS9 := Lib.hid (HS8.out.after hb9)
        have HV9 : Hid (FmVQ w9 (fun b => w.heap.size ≤ b ∧ b < w9.heap.size ∧ b ≠ xf ∧ b ≠ w.heap.size) f A cf) := Lib.hid (HV8.out.low (B := W8.heap.size) (fun b hb => ⟨hb.2.1, hb.1, by omega, hb.2.2⟩) hb9)
        have HU9 : Hid (FmVQ w9 (fun b => w.heap.size ≤ b ∧ b < w9.heap.size ∧ b ≠ xf ∧ b ≠ w.heap.size) g B cg) := Lib.hid (HU8.out.low (B := W8.heap.size) (fun b hb => ⟨hb.2.1, hb.1, by omega, hb.2.2⟩) hb9)
        have HRW9 := Lib.hid hRW
        have hx8l := HX8.out.lt
        clear hb9 hRW
        (refine hK.out _ _ (fun _ _ => ⟨HX9.out.cell 0, HX9.out.cell 1, HX9.out.cell 2, HX9.out.cell 3⟩) (fun _ _ => trivial) ?_; clear hK K; try simp only [Act.put, List.setIfInBounds_toArray, List.set_cons_zero, List.set_cons_succ])
        have x0 := HX9.out.frozen 0
        have x1 := HX9.out.frozen 1
        have x2 := HX9.out.frozen 2
        have x3 := HX9.out.frozen 3
        have c0 := HX9.out.cell 0
        have c1 := HX9.out.cell 1
        have c2' := HX9.out.cell 2
        have c3 := HX9.out.cell 3
        (refine wpTree_fix rfl rfl rfl ?_; intro o ho; simp only [List.getElem?_toArray, List.getElem?_cons_zero, List.getElem?_cons_succ, Option.some.injEq] at ho; subst ho; intro K hK)
        go_simp
        (refine hK.out _ _ (fun h => by simp at h) (fun _ _ => trivial) ?_; clear hK K; try simp only [Act.put, List.setIfInBounds_toArray, List.set_cons_zero, List.set_cons_succ])
        refine wpTree_done ?_
        clear x0 x1 x2 x3 c0 c1 c2' c3
        have HNEW : Hid (RcR w pb tb to c l k0 (partP n d) [38] 5 R0 xf ((((w9.setCell ⟨xf, 0, none⟩ (.int .i64 5)).setCell ⟨xf, 1, none⟩ (.string ⟨#[]⟩)).setCell ⟨xf, 2, none⟩ (.int .i64 0)).setCell ⟨xf, 3, none⟩ (.slice (some ⟨bb, 0, none⟩) 2 2)) (.mk 5 [] 0 [f, g]) (some ⟨bb, 0, none⟩) 2 (stOf l r2) k2 bad2 deep2 (m - 1)) := Lib.hid (by
          have hq : ∀ b, (w.heap.size ≤ b ∧ b < w9.heap.size ∧ b ≠ xf ∧ b ≠ w.heap.size) → b ≠ xf := fun b h => h.2.2.1
          have hv := (((HV9.out.far (i := 0) hq (.int .i64 5)).far (i := 1) hq (.string ⟨#[]⟩)).far (i := 2) hq (.int .i64 0)).far (i := 3) hq (.slice (some ⟨bb, 0, none⟩) 2 2)
          have hv2 := (((HU9.out.far (i := 0) hq (.int .i64 5)).far (i := 1) hq (.string ⟨#[]⟩)).far (i := 2) hq (.int .i64 0)).far (i := 3) hq (.slice (some ⟨bb, 0, none⟩) 2 2)
          have hrow := (((HRW9.out.far (p := ⟨xf, 0, none⟩) (by dsimp only; omega) (.int .i64 5)).far (p := ⟨xf, 1, none⟩) (by dsimp only; omega) (.string ⟨#[]⟩)).far (p := ⟨xf, 2, none⟩) (by dsimp only; omega) (.int .i64 0)).far (p := ⟨xf, 3, none⟩) (by dsimp only; omega) (.slice (some ⟨bb, 0, none⟩) 2 2)
          have hsz : ((((w9.setCell ⟨xf, 0, none⟩ (.int .i64 5)).setCell ⟨xf, 1, none⟩ (.string ⟨#[]⟩)).setCell ⟨xf, 2, none⟩ (.int .i64 0)).setCell ⟨xf, 3, none⟩ (.slice (some ⟨bb, 0, none⟩) 2 2)).heap.size = w9.heap.size := by simp [World.setCell]
          have hrs := HRW9.out.lt
          refine ⟨(((HX9.out.set_ 0 (.int .i64 5)).set_ 1 (.string ⟨#[]⟩)).set_ 2 (.int .i64 0)).set_ 3 (.slice (some ⟨bb, 0, none⟩) 2 2), ?_, ?_, ?_, ?_, ?_, ?_⟩
          · exact (((HR9.out.far (p := ⟨xf, 0, none⟩) (by dsimp only; omega) _).far (p := ⟨xf, 1, none⟩) (by dsimp only; omega) _).far (p := ⟨xf, 2, none⟩) (by dsimp only; omega) _).far (p := ⟨xf, 3, none⟩) (by dsimp only; omega) _
          · refine ⟨by simp [Fm.kids], by simp [Fm.kids], by simp [Fm.kind], by simp [Fm.name], FmQ.two ⟨by omega, by rw [hsz]; exact hrs, by omega, by omega⟩ hrow ?_ ?_⟩
            · exact hv.keep (fun b hb => ⟨hb.1, by rw [hsz]; exact hb.2.1, hb.2.2⟩) fun b _ => rfl
            · exact hv2.keep (fun b hb => ⟨hb.1, by rw [hsz]; exact hb.2.1, hb.2.2⟩) fun b _ => rfl
          · exact (((HS9.out.far (by omega) (by omega) _).far (by omega) (by omega) _).far (by omega) (by omega) _).far (by omega) (by omega) _
          · exact grown_new (grown_new (grown_new (grown_new HG9.out (by omega) _) (by omega) _) (by omega) _) (by omega) _
          · omega
          · exact HMO.out)
        go_roundw
        case rel => exact ⟨_, _, _, _, _, _, _, _, _, _, _, _, _, _, _, _, _, _, _, _, _, ⟨_, _, _, _, _, _, _, _, HNEW.out⟩, rfl⟩
        case measure =>
          rw [HNEW.out.left, HLF.out]
          simp only [Bool.false_eq_true, if_false]
          split <;> omega
set_option maxRecDepth 100000 in
set_option maxHeartbeats 8000000 in
theorem rchain0 (n : Nat) (d : Int) (hPC : RPartC n) {w0 : World} {pb tb to c k00 : Nat} {l : List Tk} (hT : ToksOk l) (hd0 : 0 ≤ d) (hd1 : d + ((l.length - k00 : Nat) : Int) ≤ 30000) (hn : 3 * (l.length - k00) + 1 ≤ n) :
    PartsR 57 #[.pointer (some ⟨pb, 0, none⟩), .int .i64 0, .int .i64 d] w0 pb tb to c l k00 (chainP (chainP (partP n d) [38] 5) [124] 6) := by
  intro w s1 k0 badS deepS hg hS hk0
  have hpl := hS.lt
  have htl := hS.t.lt
  have hbA := stepA w (.cells #[.int .i64 0, .string ⟨#[]⟩, .int .i64 0, .slice none 0 0] 28)
  have hbB := stepA (w.alloc (.cells #[.int .i64 0, .string ⟨#[]⟩, .int .i64 0, .slice none 0 0] 28)) (.cells #[.string ⟨#[124]⟩, .string ⟨#[38]⟩] 9)
  have HRs := Lib.hid ((Blk.new w 28 #[.int .i64 0, .string ⟨#[]⟩, .int .i64 0, .slice none 0 0]).alloc (.cells #[.string ⟨#[124]⟩, .string ⟨#[38]⟩] 9))
  have HGs := Lib.hid (grown_of (step2 hbA hbB) (some pb))
  have HSs := Lib.hid (hS.after (step2 hbA hbB))
  have HPR : Hid (PartsR 57 #[.pointer (some ⟨pb, 0, none⟩), .int .i64 1, .int .i64 d] w pb tb to c l k0 (chainP (partP n d) [38] 5)) := Lib.hid (rchain1 n d hPC hT hd0 (by omega) (by omega))
  obtain ⟨R0, hR0⟩ : ∃ R0, R0 = rOf l (chainP (chainP (partP n d) [38] 5) [124] 6) s1 := ⟨_, rfl⟩
  rw [← hR0]
  have HR0 := Lib.hid hR0
  clear hbA hbB hPC hS hg hR0
  go_enter Tryz.func57, Tryz.ntmps57
  go_wp2_with fail
  generalize (w.alloc (.cells #[.int .i64 0, .string ⟨#[]⟩, .int .i64 0, .slice none 0 0] 28)).alloc (.cells #[.string ⟨#[124]⟩, .string ⟨#[38]⟩] 9) = wS at HSs HGs HRs ⊢
  go_wp2_with fail
  refine (HPR.out wS s1 k0 badS deepS HGs.out HSs.out (Nat.le_refl _)).mono ?_
  rintro e w4 ⟨f, A, cf, k1, bad1, deep1, rfl, hP⟩
  have hs4 := hP.g.size
  have hsw : w.heap.size + 1 ≤ w4.heap.size := by have := HRs.out.lt; omega
  have hbA := stepA w4 (.cells #[.int .i64 f.kind, .string ⟨f.name.toArray⟩, .int .i64 f.lit, .slice A f.kids.length cf] 28)
  have hx : Hid (RcR w pb tb to c l k0 (chainP (partP n d) [38] 5) [124] 6 R0 w4.heap.size (w4.alloc (.cells #[.int .i64 f.kind, .string ⟨f.name.toArray⟩, .int .i64 f.lit, .slice A f.kids.length cf] 28)) f A cf (stOf l (rOf l (chainP (partP n d) [38] 5) s1)) k1 bad1 deep1 (l.length - k1)) := Lib.hid (by
    refine ⟨Blk.new _ _ _, (HRs.out.grown hP.g (by simp; omega)).alloc _, ?_, hP.s.after hbA, grown_trans (grown_trans HGs.out hP.g) (grown_of hbA _), hP.km, ?_⟩
    · refine hP.v.low (B := w4.heap.size) (fun b hb => ?_) hbA
      have := HRs.out.lt
      simp only [World.size_alloc] at hb ⊢
      omega
    · rw [HR0.out]
      exact rc_start rfl hP.f hP.s.i hP.s.k)
  obtain ⟨xf, hxf⟩ : ∃ xf, xf = w4.heap.size := ⟨_, rfl⟩
  have hxw : w.heap.size < xf := by omega
  rw [← hxf] at hx
  clear hP hs4 hbA HRs HGs HSs
  unfold fmA
  go_wp2_with fail
  rw [← hxf]
  generalize w4.alloc (.cells #[.int .i64 f.kind, .string ⟨f.name.toArray⟩, .int .i64 f.lit, .slice A f.kids.length cf] 28) = w5 at hx ⊢
  clear hxf hsw
  go_loopw [] (fun wr => ∃ (f : Fm) (A : Option Addr) (cf : Nat) (st : RS) (k : Nat) (bad deep : Bool) (m : Nat), RcR w pb tb to c l k0 (chainP (partP n d) [38] 5) [124] 6 R0 xf wr f A cf st k bad deep m) (fun wr => leftR wr pb l.length)
  case atStart => exact ⟨f, A, cf, _, k1, bad1, deep1, _, hx.out⟩
  case round =>
    clear hx
    obtain ⟨f, A, cf, st, k, bad, deep, m, hR⟩ := hrel
    have HR := Lib.hid hR
    have HLF := Lib.hid hR.left
    have HIS := Lib.hid (ris_any hR.so [124])
    have hxr := hR.b.lt
    cases hi : isS l st [124] with
    | false =>
      rw [hi] at HIS
      have HI := Lib.hid hi
      clear hR hi
      go_wp2_with fail
      refine HIS.out.mono ?_
      rintro e w6 ⟨rfl, hb6⟩
      have hB6 := HR.out.b.below hb6 hxr
      have hR6 := HR.out.r.below hb6 HR.out.r.lt
      have b0 := hB6.cell 0
      have b1 := hB6.cell 1
      have b2 := hB6.cell 2
      have b3 := hB6.cell 3
      have r0 := hR6.cell 0
      have r1 := hR6.cell 1
      have r2 := hR6.cell 2
      have r3 := hR6.cell 3
      have x0 := hR6.frozen 0
      have x1 := hR6.frozen 1
      have x2 := hR6.frozen 2
      have x3 := hR6.frozen 3
      have HR6 := Lib.hid hR6
      have HB6 := Lib.hid hb6
      clear hB6 hR6 hb6
      go_wp2_with fail
      clear b0 b1 b2 b3 r0 r1 r2 r3 x0 x1 x2 x3
      have hZ := (((HR6.out.set_ 0 (.int .i64 f.kind)).set_ 1 (.string ⟨f.name.toArray⟩)).set_ 2 (.int .i64 f.lit)).set_ 3 (.slice A f.kids.length cf)
      have z0 := hZ.cell 0
      have z1 := hZ.cell 1
      have z2 := hZ.cell 2
      have z3 := hZ.cell 3
      refine bodyPost_ret (v := fmA f A cf) (by simp [fmA, results, Tryz.results57, go_sem, z0, z1, z2, z3]) rfl ?_
      exact rc_end HR.out HI.out (grown_of HB6.out none) (by omega) (by omega)
    | true =>
      obtain ⟨rfl, rfl, rfl, htk⟩ := isS_on hi hR.so.i
      rw [hi] at HIS
      have hkl := hR.so.k
      have hk1' := takes_next hT hkl htk
      have HTK := Lib.hid htk
      have HEE : Hid (l.length - k ≤ m ∧ R0 = chainL (chainP (partP n d) [38] 5) [124] 6 m f (leftT l k)) := Lib.hid (by
        rcases hR.e with ⟨_, h2, h3⟩ | ⟨e, m', h1, _⟩
        · exact ⟨h2, h3⟩
        · cases h1)
      have hwk : (k : Int) + 1 ≤ 30000 := by have := hT.many; omega
      clear hR hi htk
      go_wp2_with fail
      refine HIS.out.mono ?_
      rintro e w6 ⟨rfl, hb6⟩
      have hS6 := HR.out.so.after hb6
      have q1 := Blk.cell hS6.p 1
      have qf := Blk.frozen hS6.p 1
      have HS6' := Lib.hid hS6
      have HB6 := Lib.hid hb6
      clear hS6 hb6
      go_wp2_with fail
      clear q1 qf
      have HS6 := Lib.hid (HS6'.out.next hk1')
      have hgs : wr.grownBy (w6.setCell ⟨pb, 1, none⟩ (.int .i64 ((k : Int) + 1))) (some pb) := grown_set (grown_of HB6.out _) _ _
      clear HS6' HB6
      have hX6 := HR.out.b.grown hgs (by simp; omega)
      have hV6 := HR.out.v.keep (w' := w6.setCell ⟨pb, 1, none⟩ (.int .i64 ((k : Int) + 1))) (Q' := fun b => w.heap.size ≤ b ∧ b < (w6.setCell ⟨pb, 1, none⟩ (.int .i64 ((k : Int) + 1))).heap.size ∧ b ≠ xf ∧ b ≠ w.heap.size) (fun b hb => ⟨hb.1, by have := hgs.size; omega, hb.2.2⟩) (fun b hb => hgs.block b hb.2.1 (by simp; omega))
      have HX6 := Lib.hid hX6
      have HV6 := Lib.hid hV6
      have HR6 := Lib.hid (HR.out.r.grown hgs (by simp; omega))
      have HG6 := Lib.hid (grown_trans HR.out.gr hgs)
      have hx6 := hX6.lt
      have hkm := HR.out.km
      clear hX6 hV6 hgs HR hxr
      generalize w6.setCell ⟨pb, 1, none⟩ (.int .i64 ((k : Int) + 1)) = w7 at HS6 HX6 HV6 HR6 HG6 hx6 ⊢
      have hX7d := HX6.out.drew
      refine wp_region_noPanic ?_
      refine wp_region_tree (fun W => W.cell? ⟨xf, 0, none⟩ = some (.int .i64 f.kind) ∧ W.cell? ⟨xf, 1, none⟩ = some (.string ⟨f.name.toArray⟩) ∧ W.cell? ⟨xf, 2, none⟩ = some (.int .i64 f.lit) ∧ W.cell? ⟨xf, 3, none⟩ = some (.slice A f.kids.length cf)) (fun _ => True) (.step 1 (.step 4 (.step 5 (.step 6 (.step 7 (.step 8 (.fork 0 (.step 2 (.fork 3 (.step 9 (.step 10 (.step 11 .done))) 9 (.step 3 (.step 10 (.step 11 .done))))) 9 (.step 0 (.step 2 (.step 3 (.step 10 (.step 11 .done)))))))))))) [1, 2, 4, 5, 6, 7, 8] [] [11] [] (by kernel_rfl) (by kernel_rfl) rfl (by kernel_rfl) (by kernel_rfl) (by kernel_rfl) (fun _ _ _ _ _ h => h) ?_ (fun hSS hRR => ?_)
      · exact ⟨⟨hX7d.cell 0, hX7d.cell 1, hX7d.cell 2, hX7d.cell 3⟩, trivial⟩
      clear hSS hRR hX7d
      have hbd := stepD1 w7
      have hzd := hbd.size
      replace HX6 := Lib.hid (HX6.out.below hbd hx6)
      replace HR6 := Lib.hid (HR6.out.below hbd HR6.out.lt)
      replace HG6 := Lib.hid (grown_trans HG6.out (grown_of hbd _))
      replace HV6 : Hid (FmVQ w7.drew (fun b => w.heap.size ≤ b ∧ b < w7.drew.heap.size ∧ b ≠ xf ∧ b ≠ w.heap.size) f A cf) := Lib.hid (HV6.out.low (B := w7.heap.size) (fun b hb => ⟨hb.2.1, hb.1, Nat.lt_of_lt_of_le hb.2.1 hzd, hb.2.2⟩) hbd)
      replace HS6 := Lib.hid (HS6.out.after hbd)
      have hx6d := Nat.lt_of_lt_of_le hx6 hzd
      clear hbd hzd hx6
      generalize w7.drew = v7 at HX6 HR6 HG6 HV6 HS6 hx6d ⊢
      have hx6 := hx6d
      clear hx6d
      have hw2 : IntKind.i64.wrap 1 = 1 := rfl
      (refine wpTree_mov rfl rfl ?_; intro o ho; simp only [List.getElem?_toArray, List.getElem?_cons_zero, List.getElem?_cons_succ, Option.some.injEq] at ho; subst ho; refine ⟨?_, Or.inl ⟨by rfl, fun W hSW => ?_⟩, ?_⟩; rotate_left; (focus (go_simp; first | done | with_reducible rfl)); try simp only [Act.put, List.setIfInBounds_toArray, List.set_cons_zero, List.set_cons_succ])
      (refine wpTree_mov rfl rfl ?_; intro o ho; simp only [List.getElem?_toArray, List.getElem?_cons_zero, List.getElem?_cons_succ, Option.some.injEq] at ho; subst ho; refine ⟨?_, Or.inl ⟨by rfl, fun W hSW => ?_⟩, ?_⟩; rotate_left; (focus (go_simp; first | done | with_reducible rfl)); try simp only [Act.put, List.setIfInBounds_toArray, List.set_cons_zero, List.set_cons_succ])
      (refine wpTree_mov rfl rfl ?_; intro o ho; simp only [List.getElem?_toArray, List.getElem?_cons_zero, List.getElem?_cons_succ, Option.some.injEq] at ho; subst ho; refine ⟨?_, Or.inl ⟨by rfl, fun W hSW => ?_⟩, ?_⟩; rotate_left; (focus (go_simp; first | done | with_reducible rfl)); try simp only [Act.put, List.setIfInBounds_toArray, List.set_cons_zero, List.set_cons_succ])
      (refine wpTree_mov rfl rfl ?_; intro o ho; simp only [List.getElem?_toArray, List.getElem?_cons_zero, List.getElem?_cons_succ, Option.some.injEq] at ho; subst ho; refine ⟨?_, Or.inl ⟨by rfl, fun W hSW => ?_⟩, ?_⟩; rotate_left; (focus (go_simp; first | done | with_reducible rfl)); try simp only [Act.put, List.setIfInBounds_toArray, List.set_cons_zero, List.set_cons_succ])
      (refine wpTree_mov rfl rfl ?_; intro o ho; simp only [List.getElem?_toArray, List.getElem?_cons_zero, List.getElem?_cons_succ, Option.some.injEq] at ho; subst ho; refine ⟨?_, Or.inl ⟨by rfl, fun W hSW => ?_⟩, ?_⟩; rotate_left; (focus (go_simp; first | done | with_reducible rfl)); try simp only [Act.put, List.setIfInBounds_toArray, List.set_cons_zero, List.set_cons_succ])
      (refine wpTree_mov rfl rfl ?_; intro o ho; simp only [List.getElem?_toArray, List.getElem?_cons_zero, List.getElem?_cons_succ, Option.some.injEq] at ho; subst ho; refine ⟨?_, Or.inl ⟨by rfl, fun W hSW => ?_⟩, ?_⟩; rotate_left; (focus (go_simp; first | done | with_reducible rfl)); try simp only [Act.put, List.setIfInBounds_toArray, List.set_cons_zero, List.set_cons_succ])
      refine wpTree_fork ?_ ?_
      · skip
        (refine fixW_of rfl ?_; intro o ho; simp only [List.getElem?_toArray, List.getElem?_cons_zero, List.getElem?_cons_succ, Option.some.injEq] at ho; subst ho; intro K hK)
        go_simp
        have HRK := Lib.hid (Blk.new v7 3 #[.int .i64 6, .int .i64 5])
        have hb7 : Below v7.heap.size v7 (v7.alloc (.cells #[.int .i64 6, .int .i64 5] 3)) := stepA v7 _
        have HX7 := Lib.hid (HX6.out.below hb7 hx6)
        have HR7 := Lib.hid (HR6.out.below hb7 HR6.out.lt)
        have HG7 := Lib.hid (grown_trans HG6.out (grown_of hb7 _))
        have hz7 := hb7.size
        have HV7 : Hid (FmVQ (v7.alloc (.cells #[.int .i64 6, .int .i64 5] 3)) (fun b => w.heap.size ≤ b ∧ b < ((v7.alloc (.cells #[.int .i64 6, .int .i64 5] 3))).heap.size ∧ b ≠ xf ∧ b ≠ w.heap.size) f A cf) := Lib.hid (HV6.out.low (B := v7.heap.size) (fun b hb => ⟨hb.2.1, hb.1, Nat.lt_of_lt_of_le hb.2.1 hz7, hb.2.2⟩) hb7)
        have HS7 := Lib.hid (HS6.out.after hb7)
        have HC := Lib.hid (HPR.out ((v7.alloc (.cells #[.int .i64 6, .int .i64 5] 3))) (.on (k + 1)) (k + 1) false false HG7.out HS7.out (by omega))
        clear hb7
        have hrkl := HRK.out.lt
        (refine hK.out _ _ (fun _ _ => ⟨HX7.out.cell 0, HX7.out.cell 1, HX7.out.cell 2, HX7.out.cell 3⟩) (fun _ _ => trivial) ?_; clear hK K; try simp only [Act.put, List.setIfInBounds_toArray, List.set_cons_zero, List.set_cons_succ])
        generalize v7.alloc (.cells #[.int .i64 6, .int .i64 5] 3) = W7 at HX7 HR7 HG7 HV7 HS7 HC HRK hz7 hrkl ⊢
        clear HX6 HR6 HG6 HV6 HS6
        (refine wpTree_mov rfl rfl ?_; intro o ho; simp only [List.getElem?_toArray, List.getElem?_cons_zero, List.getElem?_cons_succ, Option.some.injEq] at ho; subst ho; refine ⟨?_, Or.inl ⟨by rfl, fun W hSW => ?_⟩, ?_⟩; rotate_left; (focus (go_simp; first | done | with_reducible rfl)); try simp only [Act.put, List.setIfInBounds_toArray, List.set_cons_zero, List.set_cons_succ])
        refine wpTree_fork ?_ ?_
        · have rk0 := HRK.out.cell 0
          (refine fixW_of rfl ?_; intro o ho; simp only [List.getElem?_toArray, List.getElem?_cons_zero, List.getElem?_cons_succ, Option.some.injEq] at ho; subst ho; intro K hK)
          go_simp
          (refine hK.out _ _ (fun _ _ => ⟨HX7.out.cell 0, HX7.out.cell 1, HX7.out.cell 2, HX7.out.cell 3⟩) (fun _ _ => trivial) ?_; clear hK K; try simp only [Act.put, List.setIfInBounds_toArray, List.set_cons_zero, List.set_cons_succ])
          clear rk0
          (refine wpTree_fix rfl rfl rfl ?_; intro o ho; simp only [List.getElem?_toArray, List.getElem?_cons_zero, List.getElem?_cons_succ, Option.some.injEq] at ho; subst ho; intro K hK)
          go_simp
          refine HC.out.mono ?_
          clear HC
          rintro e w8 ⟨g, B, cg, k2, bad2, deep2, rfl, hP⟩
          have HMO : Hid ((stOf l (rOf l (chainP (partP n d) [38] 5) (.on (k + 1))) = .on k2 ∧ l.length - k2 ≤ m - 1 ∧ R0 = chainL (chainP (partP n d) [38] 5) [124] 6 (m - 1) (.mk 6 [] 0 [f, g]) (leftT l k2)) ∨ (∃ e m', stOf l (rOf l (chainP (partP n d) [38] 5) (.on (k + 1))) = .off e m' ∧ R0 = .bad e m')) := Lib.hid (rc_more HEE.out.1 HEE.out.2 HTK.out hkl rfl hP.f hP.s.k hP.km)
          have HS8 := Lib.hid hP.s
          generalize hr2 : rOf l (chainP (partP n d) [38] 5) (.on (k + 1)) = r2 at HMO HS8
          have hs8 := hP.g.size
          have HX8 := Lib.hid (HX7.out.grown hP.g (by simp; omega))
          have HR8 := Lib.hid (HR7.out.grown hP.g (by simp; omega))
          have HG8 := Lib.hid (grown_trans HG7.out hP.g)
          have HV8 : Hid (FmVQ w8 (fun b => w.heap.size ≤ b ∧ b < w8.heap.size ∧ b ≠ xf ∧ b ≠ w.heap.size) f A cf) := Lib.hid (HV7.out.keep (fun b hb => ⟨hb.1, by have := hb.2.1; omega, hb.2.2⟩) (fun b hb => hP.g.block b hb.2.1 (by simp; omega)))
          have HU8 : Hid (FmVQ w8 (fun b => w.heap.size ≤ b ∧ b < w8.heap.size ∧ b ≠ xf ∧ b ≠ w.heap.size) g B cg) := Lib.hid (hP.v.keep (fun b hb => ⟨by omega, hb.2, by omega, by omega⟩) (fun b _ => rfl))
          have hkm2 := hP.km
          have hk2l := hP.s.k
          clear hP hr2 HEE HTK
          unfold fmA
          (refine hK.out _ _ (fun _ _ => ⟨HX8.out.cell 0, HX8.out.cell 1, HX8.out.cell 2, HX8.out.cell 3⟩) (fun _ _ => trivial) ?_; clear hK K; try simp only [Act.put, List.setIfInBounds_toArray, List.set_cons_zero, List.set_cons_succ])
          (refine wpTree_fix rfl rfl rfl ?_; intro o ho; simp only [List.getElem?_toArray, List.getElem?_cons_zero, List.getElem?_cons_succ, Option.some.injEq] at ho; subst ho; intro K hK)
          go_simp
          refine (two_any 6 f g A B cf cg _).mono ?_
          rintro e w9 ⟨bb, rfl, hbb, hRW, hb9⟩
          have hs9 := hb9.size
          have HX9 := Lib.hid (HX8.out.below hb9 HX8.out.lt)
          have HR9 := Lib.hid (HR8.out.below hb9 HR8.out.lt)
          have HG9 := Lib.hid (grown_trans HG8.out (grown_of hb9 _))
          have HS9 := Lib.hid (HS8.out.after hb9)
          have HV9 : Hid (FmVQ w9 (fun b => w.heap.size ≤ b ∧ b < w9.heap.size ∧ b ≠ xf ∧ b ≠ w.heap.size) f A cf) := Lib.hid (HV8.out.low (B := w8.heap.size) (fun b hb => ⟨hb.2.1, hb.1, by omega, hb.2.2⟩) hb9)
          have HU9 : Hid (FmVQ w9 (fun b => w.heap.size ≤ b ∧ b < w9.heap.size ∧ b ≠ xf ∧ b ≠ w.heap.size) g B cg) := Lib.hid (HU8.out.low (B := w8.heap.size) (fun b hb => ⟨hb.2.1, hb.1, by omega, hb.2.2⟩) hb9)
          have HRW9 := Lib.hid hRW
          have hx8l := HX8.out.lt
          clear hb9 hRW
          (refine hK.out _ _ (fun _ _ => ⟨HX9.out.cell 0, HX9.out.cell 1, HX9.out.cell 2, HX9.out.cell 3⟩) (fun _ _ => trivial) ?_; clear hK K; try simp only [Act.put, List.setIfInBounds_toArray, List.set_cons_zero, List.set_cons_succ])
          have x0 := HX9.out.frozen 0
          have x1 := HX9.out.frozen 1
          have x2 := HX9.out.frozen 2
          have x3 := HX9.out.frozen 3
          have c0 := HX9.out.cell 0
          have c1 := HX9.out.cell 1
          have c2' := HX9.out.cell 2
          have c3 := HX9.out.cell 3
          (refine wpTree_fix rfl rfl rfl ?_; intro o ho; simp only [List.getElem?_toArray, List.getElem?_cons_zero, List.getElem?_cons_succ, Option.some.injEq] at ho; subst ho; intro K hK)
          go_simp
          (refine hK.out _ _ (fun h => by simp at h) (fun _ _ => trivial) ?_; clear hK K; try simp only [Act.put, List.setIfInBounds_toArray, List.set_cons_zero, List.set_cons_succ])
          refine wpTree_done ?_
          clear x0 x1 x2 x3 c0 c1 c2' c3
          have HNEW : Hid (RcR w pb tb to c l k0 (chainP (partP n d) [38] 5) [124] 6 R0 xf ((((w9.setCell ⟨xf, 0, none⟩ (.int .i64 6)).setCell ⟨xf, 1, none⟩ (.string ⟨#[]⟩)).setCell ⟨xf, 2, none⟩ (.int .i64 0)).setCell ⟨xf, 3, none⟩ (.slice (some ⟨bb, 0, none⟩) 2 2)) (.mk 6 [] 0 [f, g]) (some ⟨bb, 0, none⟩) 2 (stOf l r2) k2 bad2 deep2 (m - 1)) := Lib.hid (by
            have hq : ∀ b, (w.heap.size ≤ b ∧ b < w9.heap.size ∧ b ≠ xf ∧ b ≠ w.heap.size) → b ≠ xf := fun b h => h.2.2.1
            have hv := (((HV9.out.far (i := 0) hq (.int .i64 6)).far (i := 1) hq (.string ⟨#[]⟩)).far (i := 2) hq (.int .i64 0)).far (i := 3) hq (.slice (some ⟨bb, 0, none⟩) 2 2)
            have hv2 := (((HU9.out.far (i := 0) hq (.int .i64 6)).far (i := 1) hq (.string ⟨#[]⟩)).far (i := 2) hq (.int .i64 0)).far (i := 3) hq (.slice (some ⟨bb, 0, none⟩) 2 2)
            have hrow := (((HRW9.out.far (p := ⟨xf, 0, none⟩) (by dsimp only; omega) (.int .i64 6)).far (p := ⟨xf, 1, none⟩) (by dsimp only; omega) (.string ⟨#[]⟩)).far (p := ⟨xf, 2, none⟩) (by dsimp only; omega) (.int .i64 0)).far (p := ⟨xf, 3, none⟩) (by dsimp only; omega) (.slice (some ⟨bb, 0, none⟩) 2 2)
            have hsz : ((((w9.setCell ⟨xf, 0, none⟩ (.int .i64 6)).setCell ⟨xf, 1, none⟩ (.string ⟨#[]⟩)).setCell ⟨xf, 2, none⟩ (.int .i64 0)).setCell ⟨xf, 3, none⟩ (.slice (some ⟨bb, 0, none⟩) 2 2)).heap.size = w9.heap.size := by simp [World.setCell]
            have hrs := HRW9.out.lt
            refine ⟨(((HX9.out.set_ 0 (.int .i64 6)).set_ 1 (.string ⟨#[]⟩)).set_ 2 (.int .i64 0)).set_ 3 (.slice (some ⟨bb, 0, none⟩) 2 2), ?_, ?_, ?_, ?_, ?_, ?_⟩
            · exact (((HR9.out.far (p := ⟨xf, 0, none⟩) (by dsimp only; omega) _).far (p := ⟨xf, 1, none⟩) (by dsimp only; omega) _).far (p := ⟨xf, 2, none⟩) (by dsimp only; omega) _).far (p := ⟨xf, 3, none⟩) (by dsimp only; omega) _
            · refine ⟨by simp [Fm.kids], by simp [Fm.kids], by simp [Fm.kind], by simp [Fm.name], FmQ.two ⟨by omega, by rw [hsz]; exact hrs, by omega, by omega⟩ hrow ?_ ?_⟩
              · exact hv.keep (fun b hb => ⟨hb.1, by rw [hsz]; exact hb.2.1, hb.2.2⟩) fun b _ => rfl
              · exact hv2.keep (fun b hb => ⟨hb.1, by rw [hsz]; exact hb.2.1, hb.2.2⟩) fun b _ => rfl
            · exact (((HS9.out.far (by omega) (by omega) _).far (by omega) (by omega) _).far (by omega) (by omega) _).far (by omega) (by omega) _
            · exact grown_new (grown_new (grown_new (grown_new HG9.out (by omega) _) (by omega) _) (by omega) _) (by omega) _
            · omega
            · exact HMO.out)
          go_roundw
          case rel => exact ⟨_, _, _, _, _, _, _, _, _, _, _, _, _, _, _, _, _, _, _, _, _, ⟨_, _, _, _, _, _, _, _, HNEW.out⟩, rfl⟩
          case measure =>
            rw [HNEW.out.left, HLF.out]
            simp only [Bool.false_eq_true, if_false]
            split <;> omega
        · skip
          (refine fixW_of rfl ?_; intro o ho; simp only [List.getElem?_toArray, List.getElem?_cons_zero, List.getElem?_cons_succ, Option.some.injEq] at ho; subst ho; intro K hK)
          go_simp
          refine HC.out.mono ?_
          clear HC
          rintro e w8 ⟨g, B, cg, k2, bad2, deep2, rfl, hP⟩
          have HRK8 := Lib.hid (HRK.out.grown hP.g (by simp; omega))
          have HMO : Hid ((stOf l (rOf l (chainP (partP n d) [38] 5) (.on (k + 1))) = .on k2 ∧ l.length - k2 ≤ m - 1 ∧ R0 = chainL (chainP (partP n d) [38] 5) [124] 6 (m - 1) (.mk 6 [] 0 [f, g]) (leftT l k2)) ∨ (∃ e m', stOf l (rOf l (chainP (partP n d) [38] 5) (.on (k + 1))) = .off e m' ∧ R0 = .bad e m')) := Lib.hid (rc_more HEE.out.1 HEE.out.2 HTK.out hkl rfl hP.f hP.s.k hP.km)
          have HS8 := Lib.hid hP.s
          generalize hr2 : rOf l (chainP (partP n d) [38] 5) (.on (k + 1)) = r2 at HMO HS8
          have hs8 := hP.g.size
          have HX8 := Lib.hid (HX7.out.grown hP.g (by simp; omega))
          have HR8 := Lib.hid (HR7.out.grown hP.g (by simp; omega))
          have HG8 := Lib.hid (grown_trans HG7.out hP.g)
          have HV8 : Hid (FmVQ w8 (fun b => w.heap.size ≤ b ∧ b < w8.heap.size ∧ b ≠ xf ∧ b ≠ w.heap.size) f A cf) := Lib.hid (HV7.out.keep (fun b hb => ⟨hb.1, by have := hb.2.1; omega, hb.2.2⟩) (fun b hb => hP.g.block b hb.2.1 (by simp; omega)))
          have HU8 : Hid (FmVQ w8 (fun b => w.heap.size ≤ b ∧ b < w8.heap.size ∧ b ≠ xf ∧ b ≠ w.heap.size) g B cg) := Lib.hid (hP.v.keep (fun b hb => ⟨by omega, hb.2, by omega, by omega⟩) (fun b _ => rfl))
          have hkm2 := hP.km
          have hk2l := hP.s.k
          clear hP hr2 HEE HTK
          unfold fmA
          (refine hK.out _ _ (fun _ _ => ⟨HX8.out.cell 0, HX8.out.cell 1, HX8.out.cell 2, HX8.out.cell 3⟩) (fun _ _ => trivial) ?_; clear hK K; try simp only [Act.put, List.setIfInBounds_toArray, List.set_cons_zero, List.set_cons_succ])
          have rk0 := HRK8.out.cell 0
          (refine wpTree_fix rfl rfl rfl ?_; intro o ho; simp only [List.getElem?_toArray, List.getElem?_cons_zero, List.getElem?_cons_succ, Option.some.injEq] at ho; subst ho; intro K hK)
          go_simp
          (refine hK.out _ _ (fun _ _ => ⟨HX8.out.cell 0, HX8.out.cell 1, HX8.out.cell 2, HX8.out.cell 3⟩) (fun _ _ => trivial) ?_; clear hK K; try simp only [Act.put, List.setIfInBounds_toArray, List.set_cons_zero, List.set_cons_succ])
          clear rk0
          (refine wpTree_fix rfl rfl rfl ?_; intro o ho; simp only [List.getElem?_toArray, List.getElem?_cons_zero, List.getElem?_cons_succ, Option.some.injEq] at ho; subst ho; intro K hK)
          go_simp
          refine (two_any 6 f g A B cf cg _).mono ?_
          rintro e w9 ⟨bb, rfl, hbb, hRW, hb9⟩
          have hs9 := hb9.size
          have HX9 := Lib.hid (HX8.out.below hb9 HX8.out.lt)
          have HR9 := Lib.hid (HR8.out.below hb9 HR8.out.lt)
          have HG9 := Lib.hid (grown_trans HG8.out (grown_of hb9 _))
          have HS9 := Lib.hid (HS8.out.after hb9)
          have HV9 : Hid (FmVQ w9 (fun b => w.heap.size ≤ b ∧ b < w9.heap.size ∧ b ≠ xf ∧ b ≠ w.heap.size) f A cf) := Lib.hid (HV8.out.low (B := w8.heap.size) (fun b hb => ⟨hb.2.1, hb.1, by omega, hb.2.2⟩) hb9)
          have HU9 : Hid (FmVQ w9 (fun b => w.heap.size ≤ b ∧ b < w9.heap.size ∧ b ≠ xf ∧ b ≠ w.heap.size) g B cg) := Lib.hid (HU8.out.low (B := w8.heap.size) (fun b hb => ⟨hb.2.1, hb.1, by omega, hb.2.2⟩) hb9)
          have HRW9 := Lib.hid hRW
          have hx8l := HX8.out.lt
          clear hb9 hRW
          (refine hK.out _ _ (fun _ _ => ⟨HX9.out.cell 0, HX9.out.cell 1, HX9.out.cell 2, HX9.out.cell 3⟩) (fun _ _ => trivial) ?_; clear hK K; try simp only [Act.put, List.setIfInBounds_toArray, List.set_cons_zero, List.set_cons_succ])
          have x0 := HX9.out.frozen 0
          have x1 := HX9.out.frozen 1
          have x2 := HX9.out.frozen 2
          have x3 := HX9.out.frozen 3
          have c0 := HX9.out.cell 0
          have c1 := HX9.out.cell 1
          have c2' := HX9.out.cell 2
          have c3 := HX9.out.cell 3
          (refine wpTree_fix rfl rfl rfl ?_; intro o ho; simp only [List.getElem?_toArray, List.getElem?_cons_zero, List.getElem?_cons_succ, Option.some.injEq] at ho; subst ho; intro K hK)
          go_simp
          (refine hK.out _ _ (fun h => by simp at h) (fun _ _ => trivial) ?_; clear hK K; try simp only [Act.put, List.setIfInBounds_toArray, List.set_cons_zero, List.set_cons_succ])
          refine wpTree_done ?_
          clear x0 x1 x2 x3 c0 c1 c2' c3
          have HNEW : Hid (RcR w pb tb to c l k0 (chainP (partP n d) [38] 5) [124] 6 R0 xf ((((w9.setCell ⟨xf, 0, none⟩ (.int .i64 6)).setCell ⟨xf, 1, none⟩ (.string ⟨#[]⟩)).setCell ⟨xf, 2, none⟩ (.int .i64 0)).setCell ⟨xf, 3, none⟩ (.slice (some ⟨bb, 0, none⟩) 2 2)) (.mk 6 [] 0 [f, g]) (some ⟨bb, 0, none⟩) 2 (stOf l r2) k2 bad2 deep2 (m - 1)) := Lib.hid (by
            have hq : ∀ b, (w.heap.size ≤ b ∧ b < w9.heap.size ∧ b ≠ xf ∧ b ≠ w.heap.size) → b ≠ xf := fun b h => h.2.2.1
            have hv := (((HV9.out.far (i := 0) hq (.int .i64 6)).far (i := 1) hq (.string ⟨#[]⟩)).far (i := 2) hq (.int .i64 0)).far (i := 3) hq (.slice (some ⟨bb, 0, none⟩) 2 2)
            have hv2 := (((HU9.out.far (i := 0) hq (.int .i64 6)).far (i := 1) hq (.string ⟨#[]⟩)).far (i := 2) hq (.int .i64 0)).far (i := 3) hq (.slice (some ⟨bb, 0, none⟩) 2 2)
            have hrow := (((HRW9.out.far (p := ⟨xf, 0, none⟩) (by dsimp only; omega) (.int .i64 6)).far (p := ⟨xf, 1, none⟩) (by dsimp only; omega) (.string ⟨#[]⟩)).far (p := ⟨xf, 2, none⟩) (by dsimp only; omega) (.int .i64 0)).far (p := ⟨xf, 3, none⟩) (by dsimp only; omega) (.slice (some ⟨bb, 0, none⟩) 2 2)
            have hsz : ((((w9.setCell ⟨xf, 0, none⟩ (.int .i64 6)).setCell ⟨xf, 1, none⟩ (.string ⟨#[]⟩)).setCell ⟨xf, 2, none⟩ (.int .i64 0)).setCell ⟨xf, 3, none⟩ (.slice (some ⟨bb, 0, none⟩) 2 2)).heap.size = w9.heap.size := by simp [World.setCell]
            have hrs := HRW9.out.lt
            refine ⟨(((HX9.out.set_ 0 (.int .i64 6)).set_ 1 (.string ⟨#[]⟩)).set_ 2 (.int .i64 0)).set_ 3 (.slice (some ⟨bb, 0, none⟩) 2 2), ?_, ?_, ?_, ?_, ?_, ?_⟩
            · exact (((HR9.out.far (p := ⟨xf, 0, none⟩) (by dsimp only; omega) _).far (p := ⟨xf, 1, none⟩) (by dsimp only; omega) _).far (p := ⟨xf, 2, none⟩) (by dsimp only; omega) _).far (p := ⟨xf, 3, none⟩) (by dsimp only; omega) _
            · refine ⟨by simp [Fm.kids], by simp [Fm.kids], by simp [Fm.kind], by simp [Fm.name], FmQ.two ⟨by omega, by rw [hsz]; exact hrs, by omega, by omega⟩ hrow ?_ ?_⟩
              · exact hv.keep (fun b hb => ⟨hb.1, by rw [hsz]; exact hb.2.1, hb.2.2⟩) fun b _ => rfl
              · exact hv2.keep (fun b hb => ⟨hb.1, by rw [hsz]; exact hb.2.1, hb.2.2⟩) fun b _ => rfl
            · exact (((HS9.out.far (by omega) (by omega) _).far (by omega) (by omega) _).far (by omega) (by omega) _).far (by omega) (by omega) _
            · exact grown_new (grown_new (grown_new (grown_new HG9.out (by omega) _) (by omega) _) (by omega) _) (by omega) _
            · omega
            · exact HMO.out)
          go_roundw
          case rel => exact ⟨_, _, _, _, _, _, _, _, _, _, _, _, _, _, _, _, _, _, _, _, _, ⟨_, _, _, _, _, _, _, _, HNEW.out⟩, rfl⟩
          case measure =>
            rw [HNEW.out.left, HLF.out]
            simp only [Bool.false_eq_true, if_false]
            split <;> omega
      · skip
        (refine fixW_of rfl ?_; intro o ho; simp only [List.getElem?_toArray, List.getElem?_cons_zero, List.getElem?_cons_succ, Option.some.injEq] at ho; subst ho; intro K hK)
        go_simp
        have HX7 := HX6
        have HR7 := HR6
        have HG7 := HG6
        have HV7 := HV6
        have HS7 := HS6
        have hz7 : v7.heap.size ≤ v7.heap.size := Nat.le_refl _
        have HC := Lib.hid (HPR.out v7 (.on (k + 1)) (k + 1) false false HG7.out HS7.out (by omega))
        refine HC.out.mono ?_
        clear HC
        rintro e w8 ⟨g, B, cg, k2, bad2, deep2, rfl, hP⟩
        have HMO : Hid ((stOf l (rOf l (chainP (partP n d) [38] 5) (.on (k + 1))) = .on k2 ∧ l.length - k2 ≤ m - 1 ∧ R0 = chainL (chainP (partP n d) [38] 5) [124] 6 (m - 1) (.mk 6 [] 0 [f, g]) (leftT l k2)) ∨ (∃ e m', stOf l (rOf l (chainP (partP n d) [38] 5) (.on (k + 1))) = .off e m' ∧ R0 = .bad e m')) := Lib.hid (rc_more HEE.out.1 HEE.out.2 HTK.out hkl rfl hP.f hP.s.k hP.km)
        have HS8 := Lib.hid hP.s
        generalize hr2 : rOf l (chainP (partP n d) [38] 5) (.on (k + 1)) = r2 at HMO HS8
        have hs8 := hP.g.size
        have HX8 := Lib.hid (HX7.out.grown hP.g (by simp; omega))
        have HR8 := Lib.hid (HR7.out.grown hP.g (by simp; omega))
        have HG8 := Lib.hid (grown_trans HG7.out hP.g)
        have HV8 : Hid (FmVQ w8 (fun b => w.heap.size ≤ b ∧ b < w8.heap.size ∧ b ≠ xf ∧ b ≠ w.heap.size) f A cf) := Lib.hid (HV7.out.keep (fun b hb => ⟨hb.1, by have := hb.2.1; omega, hb.2.2⟩) (fun b hb => hP.g.block b hb.2.1 (by simp; omega)))
        have HU8 : Hid (FmVQ w8 (fun b => w.heap.size ≤ b ∧ b < w8.heap.size ∧ b ≠ xf ∧ b ≠ w.heap.size) g B cg) := Lib.hid (hP.v.keep (fun b hb => ⟨by omega, hb.2, by omega, by omega⟩) (fun b _ => rfl))
        have hkm2 := hP.km
        have hk2l := hP.s.k
        clear hP hr2 HEE HTK
        unfold fmA
        (refine hK.out _ _ (fun _ _ => ⟨HX8.out.cell 0, HX8.out.cell 1, HX8.out.cell 2, HX8.out.cell 3⟩) (fun _ _ => trivial) ?_; clear hK K; try simp only [Act.put, List.setIfInBounds_toArray, List.set_cons_zero, List.set_cons_succ])
        have HRK := Lib.hid (Blk.new w8 3 #[.int .i64 6, .int .i64 5])
        have hb8 := stepA w8 (.cells #[.int .i64 6, .int .i64 5] 3)
        have hz8 := hb8.size
        replace HV8 : Hid (FmVQ (w8.alloc (.cells #[.int .i64 6, .int .i64 5] 3)) (fun b => w.heap.size ≤ b ∧ b < (w8.alloc (.cells #[.int .i64 6, .int .i64 5] 3)).heap.size ∧ b ≠ xf ∧ b ≠ w.heap.size) f A cf) := Lib.hid (HV8.out.low (B := w8.heap.size) (fun b hb => ⟨hb.2.1, hb.1, Nat.lt_of_lt_of_le hb.2.1 hz8, hb.2.2⟩) hb8)
        replace HU8 : Hid (FmVQ (w8.alloc (.cells #[.int .i64 6, .int .i64 5] 3)) (fun b => w.heap.size ≤ b ∧ b < (w8.alloc (.cells #[.int .i64 6, .int .i64 5] 3)).heap.size ∧ b ≠ xf ∧ b ≠ w.heap.size) g B cg) := Lib.hid (HU8.out.low (B := w8.heap.size) (fun b hb => ⟨hb.2.1, hb.1, Nat.lt_of_lt_of_le hb.2.1 hz8, hb.2.2⟩) hb8)
        replace HX8 := Lib.hid (HX8.out.alloc (.cells #[.int .i64 6, .int .i64 5] 3))
        replace HR8 := Lib.hid (HR8.out.alloc (.cells #[.int .i64 6, .int .i64 5] 3))
        replace HG8 := Lib.hid (grown_trans HG8.out (grown_of hb8 _))
        replace HS8 := Lib.hid (HS8.out.after hb8)
        (refine wpTree_fix rfl rfl rfl ?_; intro o ho; simp only [List.getElem?_toArray, List.getElem?_cons_zero, List.getElem?_cons_succ, Option.some.injEq] at ho; subst ho; intro K hK)
        go_simp
        (refine hK.out _ _ (fun _ _ => ⟨HX8.out.cell 0, HX8.out.cell 1, HX8.out.cell 2, HX8.out.cell 3⟩) (fun _ _ => trivial) ?_; clear hK K; try simp only [Act.put, List.setIfInBounds_toArray, List.set_cons_zero, List.set_cons_succ])
        generalize hgen : w8.alloc (.cells #[.int .i64 6, .int .i64 5] 3) = W8 at HX8 HR8 HG8 HS8 HV8 HU8 HRK hz8 hb8 ⊢
        clear hgen hb8
        (refine wpTree_mov rfl rfl ?_; intro o ho; simp only [List.getElem?_toArray, List.getElem?_cons_zero, List.getElem?_cons_succ, Option.some.injEq] at ho; subst ho; refine ⟨?_, Or.inl ⟨by rfl, fun W hSW => ?_⟩, ?_⟩; rotate_left; (focus (go_simp; first | done | with_reducible rfl)); try simp only [Act.put, List.setIfInBounds_toArray, List.set_cons_zero, List.set_cons_succ])
        have rk0 := HRK.out.cell 0
        (refine wpTree_fix rfl rfl rfl ?_; intro o ho; simp only [List.getElem?_toArray, List.getElem?_cons_zero, List.getElem?_cons_succ, Option.some.injEq] at ho; subst ho; intro K hK)
        go_simp
        (refine hK.out _ _ (fun _ _ => ⟨HX8.out.cell 0, HX8.out.cell 1, HX8.out.cell 2, HX8.out.cell 3⟩) (fun _ _ => trivial) ?_; clear hK K; try simp only [Act.put, List.setIfInBounds_toArray, List.set_cons_zero, List.set_cons_succ])
        clear rk0
        (refine wpTree_fix rfl rfl rfl ?_; intro o ho; simp only [List.getElem?_toArray, List.getElem?_cons_zero, List.getElem?_cons_succ, Option.some.injEq] at ho; subst ho; intro K hK)
        go_simp
        refine (two_any 6 f g A B cf cg _).mono ?_
        rintro e w9 ⟨bb, rfl, hbb, hRW, hb9⟩
        have hs9 := hb9.size
        have HX9 := Lib.hid (HX8.out.below hb9 HX8.out.lt)
        have HR9 := Lib.hid (HR8.out.below hb9 HR8.out.lt)
        have HG9 := Lib.hid (grown_trans HG8.out (grown_of hb9 _))
        have HS9 := Lib.hid (HS8.out.after hb9)
        have HV9 : Hid (FmVQ w9 (fun b => w.heap.size ≤ b ∧ b < w9.heap.size ∧ b ≠ xf ∧ b ≠ w.heap.size) f A cf) := Lib.hid (HV8.out.low (B := W8.heap.size) (fun b hb => ⟨hb.2.1, hb.1, by omega, hb.2.2⟩) hb9)
        have HU9 : Hid (FmVQ w9 (fun b => w.heap.size ≤ b ∧ b < w9.heap.size ∧ b ≠ xf ∧ b ≠ w.heap.size) g B cg) := Lib.hid (HU8.out.low (B := W8.heap.size) (fun b hb => ⟨hb.2.1, hb.1, by omega, hb.2.2⟩) hb9)
        have HRW9 := Lib.hid hRW
        have hx8l := HX8.out.lt
        clear hb9 hRW
        (refine hK.out _ _ (fun _ _ => ⟨HX9.out.cell 0, HX9.out.cell 1, HX9.out.cell 2, HX9.out.cell 3⟩) (fun _ _ => trivial) ?_; clear hK K; try simp only [Act.put, List.setIfInBounds_toArray, List.set_cons_zero, List.set_cons_succ])
        have x0 := HX9.out.frozen 0
        have x1 := HX9.out.frozen 1
        have x2 := HX9.out.frozen 2
        have x3 := HX9.out.frozen 3
        have c0 := HX9.out.cell 0
        have c1 := HX9.out.cell 1
        have c2' := HX9.out.cell 2
        have c3 := HX9.out.cell 3
        (refine wpTree_fix rfl rfl rfl ?_; intro o ho; simp only [List.getElem?_toArray, List.getElem?_cons_zero, List.getElem?_cons_succ, Option.some.injEq] at ho; subst ho; intro K hK)
        go_simp
        (refine hK.out _ _ (fun h => by simp at h) (fun _ _ => trivial) ?_; clear hK K; try simp only [Act.put, List.setIfInBounds_toArray, List.set_cons_zero, List.set_cons_succ])
        refine wpTree_done ?_
        clear x0 x1 x2 x3 c0 c1 c2' c3
        have HNEW : Hid (RcR w pb tb to c l k0 (chainP (partP n d) [38] 5) [124] 6 R0 xf ((((w9.setCell ⟨xf, 0, none⟩ (.int .i64 6)).setCell ⟨xf, 1, none⟩ (.string ⟨#[]⟩)).setCell ⟨xf, 2, none⟩ (.int .i64 0)).setCell ⟨xf, 3, none⟩ (.slice (some ⟨bb, 0, none⟩) 2 2)) (.mk 6 [] 0 [f, g]) (some ⟨bb, 0, none⟩) 2 (stOf l r2) k2 bad2 deep2 (m - 1)) := Lib.hid (by
          have hq : ∀ b, (w.heap.size ≤ b ∧ b < w9.heap.size ∧ b ≠ xf ∧ b ≠ w.heap.size) → b ≠ xf := fun b h => h.2.2.1
          have hv := (((HV9.out.far (i := 0) hq (.int .i64 6)).far (i := 1) hq (.string ⟨#[]⟩)).far (i := 2) hq (.int .i64 0)).far (i := 3) hq (.slice (some ⟨bb, 0, none⟩) 2 2)
          have hv2 := (((HU9.out.far (i := 0) hq (.int .i64 6)).far (i := 1) hq (.string ⟨#[]⟩)).far (i := 2) hq (.int .i64 0)).far (i := 3) hq (.slice (some ⟨bb, 0, none⟩) 2 2)
          have hrow := (((HRW9.out.far (p := ⟨xf, 0, none⟩) (by dsimp only; omega) (.int .i64 6)).far (p := ⟨xf, 1, none⟩) (by dsimp only; omega) (.string ⟨#[]⟩)).far (p := ⟨xf, 2, none⟩) (by dsimp only; omega) (.int .i64 0)).far (p := ⟨xf, 3, none⟩) (by dsimp only; omega) (.slice (some ⟨bb, 0, none⟩) 2 2)
          have hsz : ((((w9.setCell ⟨xf, 0, none⟩ (.int .i64 6)).setCell ⟨xf, 1, none⟩ (.string ⟨#[]⟩)).setCell ⟨xf, 2, none⟩ (.int .i64 0)).setCell ⟨xf, 3, none⟩ (.slice (some ⟨bb, 0, none⟩) 2 2)).heap.size = w9.heap.size := by simp [World.setCell]
          have hrs := HRW9.out.lt
          refine ⟨(((HX9.out.set_ 0 (.int .i64 6)).set_ 1 (.string ⟨#[]⟩)).set_ 2 (.int .i64 0)).set_ 3 (.slice (some ⟨bb, 0, none⟩) 2 2), ?_, ?_, ?_, ?_, ?_, ?_⟩
          · exact (((HR9.out.far (p := ⟨xf, 0, none⟩) (by dsimp only; omega) _).far (p := ⟨xf, 1, none⟩) (by dsimp only; omega) _).far (p := ⟨xf, 2, none⟩) (by dsimp only; omega) _).far (p := ⟨xf, 3, none⟩) (by dsimp only; omega) _
          · refine ⟨by simp [Fm.kids], by simp [Fm.kids], by simp [Fm.kind], by simp [Fm.name], FmQ.two ⟨by omega, by rw [hsz]; exact hrs, by omega, by omega⟩ hrow ?_ ?_⟩
            · exact hv.keep (fun b hb => ⟨hb.1, by rw [hsz]; exact hb.2.1, hb.2.2⟩) fun b _ => rfl
            · exact hv2.keep (fun b hb => ⟨hb.1, by rw [hsz]; exact hb.2.1, hb.2.2⟩) fun b _ => rfl
          · exact (((HS9.out.far (by omega) (by omega) _).far (by omega) (by omega) _).far (by omega) (by omega) _).far (by omega) (by omega) _
          · exact grown_new (grown_new (grown_new (grown_new HG9.out (by omega) _) (by omega) _) (by omega) _) (by omega) _
          · omega
          · exact HMO.out)
        go_roundw
        case rel => exact ⟨_, _, _, _, _, _, _, _, _, _, _, _, _, _, _, _, _, _, _, _, _, ⟨_, _, _, _, _, _, _, _, HNEW.out⟩, rfl⟩
        case measure =>
          rw [HNEW.out.left, HLF.out]
          simp only [Bool.false_eq_true, if_false]
          split <;> omega
section
variable {l : List Tk} {n : Nat} {d : Int} {s : RS} {f g : Fm} {k k2 : Nat}
theorem ri_false (h : isS l (stOf l (rOf l (chainP (chainP (partP n d) [38] 5) [124] 6) s)) [45, 62] = false) (hf : ∀ f' t, rOf l (chainP (chainP (partP n d) [38] 5) [124] 6) s = .ok f' t → f = f' ∧ t = leftT l k) (hk : k < l.length) : rOf l (implyP (n + 1) d) s = rOf l (chainP (chainP (partP n d) [38] 5) [124] 6) s := by
  cases s with
  | off e m => rfl
  | on k0 =>
    have e1 : rOf l (chainP (chainP (partP n d) [38] 5) [124] 6) (.on k0) = (chainP (chainP (partP n d) [38] 5) [124] 6) (leftT l k0) := rfl
    rw [e1] at h hf ⊢
    show implyP (n + 1) d (leftT l k0) = _
    rw [implyP]
    cases hg : (chainP (chainP (partP n d) [38] 5) [124] 6) (leftT l k0) with
    | bad e m => rfl
    | ok f' t =>
      obtain ⟨rfl, rfl⟩ := hf f' t hg
      rw [hg, stOf_left hk] at h
      have h' : takes [45, 62] (leftT l k) = false := h
      rw [PR.bind_ok, h', if_neg (by decide)]
theorem ri_true (h : stOf l (rOf l (chainP (chainP (partP n d) [38] 5) [124] 6) s) = .on k) (ht : takes [45, 62] (leftT l k) = true) (hf : ∀ f' t, rOf l (chainP (chainP (partP n d) [38] 5) [124] 6) s = .ok f' t → f = f' ∧ t = leftT l k) : rOf l (implyP (n + 1) d) s = (implyP n (d + 1) (leftT l (k + 1))).bind fun g t'' => .ok (.mk 7 [] 0 [f, g]) t'' := by
  cases s with
  | off e m => cases h
  | on k0 =>
    have e1 : rOf l (chainP (chainP (partP n d) [38] 5) [124] 6) (.on k0) = (chainP (chainP (partP n d) [38] 5) [124] 6) (leftT l k0) := rfl
    rw [e1] at h hf
    show implyP (n + 1) d (leftT l k0) = _
    rw [implyP]
    cases hg : (chainP (chainP (partP n d) [38] 5) [124] 6) (leftT l k0) with
    | bad e m => rw [hg] at h; cases h
    | ok f' t =>
      obtain ⟨rfl, rfl⟩ := hf f' t hg
      rw [PR.bind_ok, ht, if_pos rfl, leftT_tail]
/-- A formula built of what came. -/
theorem stOf_bind {l : List Tk} {r : PR} {F : Fm → Fm} : stOf l (r.bind fun g t => .ok (F g) t) = stOf l r := by
  cases r <;> rfl
theorem bind_ok_inv {r : PR} {F : Fm → Fm} {f' : Fm} {t : List KT} (h : (r.bind fun g t => .ok (F g) t) = .ok f' t) : ∃ g, r = .ok g t ∧ f' = F g := by
  cases r with
  | bad e m => cases h
  | ok g t' =>
    have h' : PR.ok (F g) t' = .ok f' t := h
    cases h'
    exact ⟨g, rfl, rfl⟩
end
set_option maxRecDepth 100000 in
set_option maxHeartbeats 8000000 in
theorem rimply_step (n : Nat) (hPC : RPartC n) (hIC : RImplyC n) : RImplyC (n + 1) := by
  intro w pb tb to c k0 l s1 badS deepS d hT hS hd0 hd1 hn
  have hpl := hS.lt
  have htl := hS.t.lt
  have hbA := stepA w (.cells #[.int .i64 0, .string ⟨#[]⟩, .int .i64 0, .slice none 0 0] 28)
  have HRs := Lib.hid (Blk.new w 28 #[.int .i64 0, .string ⟨#[]⟩, .int .i64 0, .slice none 0 0])
  have HGs := Lib.hid (grown_of hbA (some pb))
  have HSs := Lib.hid (hS.after hbA)
  have HPR : Hid (PartsR 57 #[.pointer (some ⟨pb, 0, none⟩), .int .i64 0, .int .i64 d] w pb tb to c l k0 (chainP (chainP (partP n d) [38] 5) [124] 6)) := Lib.hid (rchain0 n d hPC hT hd0 (by omega) (by omega))
  have HIC := Lib.hid hIC
  have hwr : IntKind.i64.wrap (d + 1) = d + 1 := IntWalk.i64_in _ (by omega)
  obtain ⟨R0, hR0⟩ : ∃ R0, R0 = rOf l (implyP (n + 1) d) s1 := ⟨_, rfl⟩
  rw [← hR0]
  have HR0 := Lib.hid hR0
  clear hbA hPC hIC hS hR0
  go_enter Tryz.func41, Tryz.ntmps41
  go_wp2_with fail
  generalize w.alloc (.cells #[.int .i64 0, .string ⟨#[]⟩, .int .i64 0, .slice none 0 0] 28) = wS at HSs HGs HRs ⊢
  refine (HPR.out wS s1 k0 badS deepS HGs.out HSs.out (Nat.le_refl _)).mono ?_
  rintro e w4 ⟨f, A, cf, k, bad, deep, rfl, hP⟩
  have hs4 := hP.g.size
  have hsw : w.heap.size + 1 ≤ w4.heap.size := by have := HRs.out.lt; omega
  have hbA := stepA w4 (.cells #[.int .i64 f.kind, .string ⟨f.name.toArray⟩, .int .i64 f.lit, .slice A f.kids.length cf] 28)
  have HX5 := Lib.hid (Blk.new w4 28 #[.int .i64 f.kind, .string ⟨f.name.toArray⟩, .int .i64 f.lit, .slice A f.kids.length cf])
  have HR5 := Lib.hid ((HRs.out.grown hP.g (by simp; omega)).alloc (.cells #[.int .i64 f.kind, .string ⟨f.name.toArray⟩, .int .i64 f.lit, .slice A f.kids.length cf] 28))
  have HG5 := Lib.hid (grown_trans (grown_trans HGs.out hP.g) (grown_of hbA _))
  have HS5 := Lib.hid (hP.s.after hbA)
  have HF5 := Lib.hid hP.f
  have HV5 : Hid (FmVQ (w4.alloc (.cells #[.int .i64 f.kind, .string ⟨f.name.toArray⟩, .int .i64 f.lit, .slice A f.kids.length cf] 28)) (fun b => w.heap.size < b ∧ b < (w4.alloc (.cells #[.int .i64 f.kind, .string ⟨f.name.toArray⟩, .int .i64 f.lit, .slice A f.kids.length cf] 28)).heap.size) f A cf) := Lib.hid (hP.v.low (B := w4.heap.size) (fun b hb => by
    have := HRs.out.lt
    simp only [World.size_alloc]
    omega) hbA)
  have hkm := hP.km
  have hkl := hP.s.k
  have HIS := Lib.hid (ris_any HS5.out [45, 62])
  obtain ⟨xf, hxf⟩ : ∃ xf, xf = w4.heap.size := ⟨_, rfl⟩
  have hxw : w.heap.size < xf := by omega
  have hx5 : xf < (w4.alloc (.cells #[.int .i64 f.kind, .string ⟨f.name.toArray⟩, .int .i64 f.lit, .slice A f.kids.length cf] 28)).heap.size := by rw [hxf]; simp
  rw [← hxf] at HX5
  clear hP hs4 hbA HRs HGs HSs hsw
  unfold fmA
  go_wp2_with fail
  rw [← hxf]
  generalize w4.alloc (.cells #[.int .i64 f.kind, .string ⟨f.name.toArray⟩, .int .i64 f.lit, .slice A f.kids.length cf] 28) = w5 at HX5 HR5 HG5 HS5 HV5 HIS hx5 ⊢
  clear hxf
  cases hi : isS l (stOf l (rOf l (chainP (chainP (partP n d) [38] 5) [124] 6) s1)) [45, 62] with
  | false =>
    rw [hi] at HIS
    have HE := Lib.hid (ri_false hi HF5.out hkl)
    refine HIS.out.mono ?_
    rintro e w6 ⟨rfl, hb6⟩
    have hX6 := HX5.out.below hb6 hx5
    have b0 := hX6.cell 0
    have b1 := hX6.cell 1
    have b2 := hX6.cell 2
    have b3 := hX6.cell 3
    have HR9 := Lib.hid (HR5.out.below hb6 HR5.out.lt)
    have hs6 := hb6.size
    have HP9 : Hid (RsOk w pb tb to c l k0 R0 f A cf k bad deep w6) := Lib.hid (by
      rw [HR0.out, HE.out]
      exact ⟨hkm, grown_trans HG5.out (grown_of hb6 _), HS5.out.after hb6, HV5.out.low (B := w5.heap.size) (fun b hb => ⟨hb.2, by omega, by omega⟩) hb6, HF5.out⟩)
    have HQ9 : Hid (FmVQ w6 (fun b => w.heap.size < b ∧ b < w6.heap.size) f A cf) := Lib.hid (HV5.out.low (B := w5.heap.size) (fun b hb => ⟨hb.2, hb.1, by omega⟩) hb6)
    clear hb6 hX6 hi
    have y0 := HR9.out.cell 0
    have y1 := HR9.out.cell 1
    have y2 := HR9.out.cell 2
    have y3 := HR9.out.cell 3
    have x0 := HR9.out.frozen 0
    have x1 := HR9.out.frozen 1
    have x2 := HR9.out.frozen 2
    have x3 := HR9.out.frozen 3
    go_wp2_with fail
    clear x0 x1 x2 x3 y0 y1 y2 y3 b0 b1 b2 b3
    have hZ := (((HR9.out.set_ 0 (.int .i64 f.kind)).set_ 1 (.string ⟨f.name.toArray⟩)).set_ 2 (.int .i64 f.lit)).set_ 3 (.slice A f.kids.length cf)
    have z0 := hZ.cell 0
    have z1 := hZ.cell 1
    have z2 := hZ.cell 2
    have z3 := hZ.cell 3
    refine bodyPost_ret (v := fmA f A cf) (by simp [fmA, results, Tryz.results41, go_sem, z0, z1, z2, z3]) rfl ?_
    exact rs_store HP9.out HQ9.out (by omega) (by omega)
  | true =>
    obtain ⟨hst, rfl, rfl, htk⟩ := isS_on hi HS5.out.i
    rw [hi] at HIS
    have hk1' := takes_next hT hkl htk
    have HE := Lib.hid (ri_true hst htk HF5.out)
    rw [hst] at HS5
    clear hi htk hst
    refine HIS.out.mono ?_
    rintro e w6 ⟨rfl, hb6⟩
    have hS6 := HS5.out.after hb6
    have q1 := Blk.cell hS6.p 1
    have qf := Blk.frozen hS6.p 1
    have hwk : (k : Int) + 1 ≤ 30000 := by have := hT.many; omega
    have HS6 := Lib.hid hS6
    have HX6 := Lib.hid (HX5.out.below hb6 hx5)
    have HR6 := Lib.hid (HR5.out.below hb6 HR5.out.lt)
    have HG6 := Lib.hid (grown_trans HG5.out (grown_of hb6 _))
    have hs6 := hb6.size
    have HV6 : Hid (FmVQ w6 (fun b => w.heap.size < b ∧ b < w6.heap.size) f A cf) := Lib.hid (HV5.out.low (B := w5.heap.size) (fun b hb => ⟨hb.2, hb.1, by omega⟩) hb6)
    clear hS6 hb6 HX5 HR5 HG5 HS5 HV5
    go_wp2_with fail
    clear q1 qf
    have hbd := stepD1 (w6.setCell ⟨pb, 1, none⟩ (.int .i64 ((k : Int) + 1)))
    have hgs : w6.grownBy (w6.setCell ⟨pb, 1, none⟩ (.int .i64 ((k : Int) + 1))).drew (some pb) := grown_trans (grown_set (World.grownBy.refl w6 _) _ _) (grown_of hbd _)
    have hz7 := hgs.size
    have HS7 := Lib.hid ((HS6.out.next hk1').after hbd)
    have HX7 := Lib.hid (HX6.out.grown hgs (by simp; omega))
    have HR7 := Lib.hid (HR6.out.grown hgs (by simp; omega))
    have HG7 := Lib.hid (grown_trans HG6.out hgs)
    have HV7 : Hid (FmVQ (w6.setCell ⟨pb, 1, none⟩ (.int .i64 ((k : Int) + 1))).drew (fun b => w.heap.size < b ∧ b < (w6.setCell ⟨pb, 1, none⟩ (.int .i64 ((k : Int) + 1))).drew.heap.size) f A cf) := Lib.hid (HV6.out.keep (fun b hb => ⟨hb.1, by omega⟩) (fun b hb => hgs.block b hb.2 (by have := hb.1; simp; omega)))
    clear hgs hbd HS6 HX6 HR6 HG6 HV6
    refine wp_region_noPanic ?_
    refine wp_region_seq (fun W => W.cell? ⟨xf, 0, none⟩ = some (.int .i64 f.kind) ∧ W.cell? ⟨xf, 1, none⟩ = some (.string ⟨f.name.toArray⟩) ∧ W.cell? ⟨xf, 2, none⟩ = some (.int .i64 f.lit) ∧ W.cell? ⟨xf, 3, none⟩ = some (.slice A f.kids.length cf)) [0, 1, 2, 3, 4, 5, 6] [0, 1, 2, 3] [6] (by kernel_rfl) (by kernel_rfl) rfl (by kernel_rfl) (by kernel_rfl) (fun _ _ _ _ _ h => h) ?_ (fun hSS => ?_)
    · exact ⟨HX7.out.cell 0, HX7.out.cell 1, HX7.out.cell 2, HX7.out.cell 3⟩
    clear hSS
    generalize (w6.setCell ⟨pb, 1, none⟩ (.int .i64 ((k : Int) + 1))).drew = w7 at HS7 HX7 HR7 HG7 HV7 hz7 ⊢
    have HC := Lib.hid (HIC.out w7 pb tb to c (k + 1) l (.on (k + 1)) false false (d + 1) hT HS7.out (by omega) (by omega) (by omega))
    (refine wpSeq_mov rfl rfl ?_; intro o ho; simp only [List.getElem?_toArray, List.getElem?_cons_zero, List.getElem?_cons_succ, Option.some.injEq] at ho; subst ho; refine ⟨?_, Or.inl ⟨by rfl, fun W hSW => ?_⟩, ?_⟩; rotate_left; (focus (go_simp; first | done | with_reducible rfl)); try simp only [Act.put, List.setIfInBounds_toArray, List.set_cons_zero, List.set_cons_succ])
    (refine wpSeq_mov rfl rfl ?_; intro o ho; simp only [List.getElem?_toArray, List.getElem?_cons_zero, List.getElem?_cons_succ, Option.some.injEq] at ho; subst ho; refine ⟨?_, Or.inl ⟨by rfl, fun W hSW => ?_⟩, ?_⟩; rotate_left; (focus (go_simp; first | done | with_reducible rfl)); try simp only [Act.put, List.setIfInBounds_toArray, List.set_cons_zero, List.set_cons_succ])
    (refine wpSeq_mov rfl rfl ?_; intro o ho; simp only [List.getElem?_toArray, List.getElem?_cons_zero, List.getElem?_cons_succ, Option.some.injEq] at ho; subst ho; refine ⟨?_, Or.inl ⟨by rfl, fun W hSW => ?_⟩, ?_⟩; rotate_left; (focus (go_simp; first | done | with_reducible rfl)); try simp only [Act.put, List.setIfInBounds_toArray, List.set_cons_zero, List.set_cons_succ])
    (refine wpSeq_mov rfl rfl ?_; intro o ho; simp only [List.getElem?_toArray, List.getElem?_cons_zero, List.getElem?_cons_succ, Option.some.injEq] at ho; subst ho; refine ⟨?_, Or.inl ⟨by rfl, fun W hSW => ?_⟩, ?_⟩; rotate_left; (focus (go_simp; first | done | with_reducible rfl)); try simp only [Act.put, List.setIfInBounds_toArray, List.set_cons_zero, List.set_cons_succ])
    (refine wpSeq_fix rfl rfl ?_; intro o ho; simp only [List.getElem?_toArray, List.getElem?_cons_zero, List.getElem?_cons_succ, Option.some.injEq] at ho; subst ho; intro K hK)
    go_simp
    refine HC.out.mono ?_
    clear HC
    rintro e w8 ⟨g, B, cg, k2, bad2, deep2, rfl, hP⟩
    have HS8 := Lib.hid hP.s
    have hs8 := hP.g.size
    have hx7 := HX7.out.lt
    have HX8 := Lib.hid (HX7.out.grown hP.g (by simp; omega))
    have HR8 := Lib.hid (HR7.out.grown hP.g (by simp; omega))
    have HG8 := Lib.hid (grown_trans HG7.out hP.g)
    have HV8 : Hid (FmVQ w8 (fun b => w.heap.size < b ∧ b < w8.heap.size) f A cf) := Lib.hid (HV7.out.keep (fun b hb => ⟨hb.1, by have := hb.2; omega⟩) (fun b hb => hP.g.block b hb.2 (by have := hb.1; simp; omega)))
    have HU8 : Hid (FmVQ w8 (fun b => w.heap.size < b ∧ b < w8.heap.size) g B cg) := Lib.hid (hP.v.keep (fun b hb => ⟨by omega, hb.2⟩) (fun b _ => rfl))
    have HF8 := Lib.hid hP.f
    have hkm2 := hP.km
    clear hP
    unfold fmA
    (refine hK.out _ _ (fun _ => ⟨HX8.out.cell 0, HX8.out.cell 1, HX8.out.cell 2, HX8.out.cell 3⟩) ?_; clear hK K; try simp only [Act.put, List.setIfInBounds_toArray, List.set_cons_zero, List.set_cons_succ])
    (refine wpSeq_fix rfl rfl ?_; intro o ho; simp only [List.getElem?_toArray, List.getElem?_cons_zero, List.getElem?_cons_succ, Option.some.injEq] at ho; subst ho; intro K hK)
    go_simp
    refine (two_any 7 f g A B cf cg _).mono ?_
    rintro e w9 ⟨bb, rfl, hbb, hRW, hb9⟩
    have hs9 := hb9.size
    have hX9 := HX8.out.below hb9 HX8.out.lt
    have HR9 := Lib.hid (HR8.out.below hb9 HR8.out.lt)
    have HP9 : Hid (RsOk w pb tb to c l k0 R0 (.mk 7 [] 0 [f, g]) (some ⟨bb, 0, none⟩) 2 k2 bad2 deep2 w9) := Lib.hid (by
      rw [HR0.out, HE.out]
      refine ⟨by omega, grown_trans HG8.out (grown_of hb9 _), ?_, ⟨by simp [Fm.kids], by simp [Fm.kids], by simp [Fm.kind], by simp [Fm.name], FmQ.two ⟨by omega, hRW.lt⟩ hRW ?_ ?_⟩, ?_⟩
      · rw [stOf_bind (F := fun g => .mk 7 [] 0 [f, g])]
        exact HS8.out.after hb9
      · exact HV8.out.low (B := w8.heap.size) (fun b hb => ⟨hb.2, by omega, by omega⟩) hb9
      · exact HU8.out.low (B := w8.heap.size) (fun b hb => ⟨hb.2, by omega, by omega⟩) hb9
      · intro f' t h
        obtain ⟨g', h1, h2⟩ := bind_ok_inv (F := fun g => .mk 7 [] 0 [f, g]) h
        obtain ⟨rfl, h3⟩ := HF8.out g' t h1
        exact ⟨h2.symm, h3⟩)
    have HQ9 : Hid (FmVQ w9 (fun b => w.heap.size < b ∧ b < w9.heap.size) (.mk 7 [] 0 [f, g]) (some ⟨bb, 0, none⟩) 2) := Lib.hid ⟨by simp [Fm.kids], by simp [Fm.kids], by simp [Fm.kind], by simp [Fm.name], FmQ.two ⟨by omega, hRW.lt⟩ hRW (HV8.out.low (B := w8.heap.size) (fun b hb => ⟨hb.2, by omega, by omega⟩) hb9) (HU8.out.low (B := w8.heap.size) (fun b hb => ⟨hb.2, by omega, by omega⟩) hb9)⟩
    (refine hK.out _ _ (fun _ => ⟨hX9.cell 0, hX9.cell 1, hX9.cell 2, hX9.cell 3⟩) ?_; clear hK K; try simp only [Act.put, List.setIfInBounds_toArray, List.set_cons_zero, List.set_cons_succ])
    clear hb9 hRW hX9
    have y0 := HR9.out.cell 0
    have y1 := HR9.out.cell 1
    have y2 := HR9.out.cell 2
    have y3 := HR9.out.cell 3
    have x0 := HR9.out.frozen 0
    have x1 := HR9.out.frozen 1
    have x2 := HR9.out.frozen 2
    have x3 := HR9.out.frozen 3
    (refine wpSeq_fix rfl rfl ?_; intro o ho; simp only [List.getElem?_toArray, List.getElem?_cons_zero, List.getElem?_cons_succ, Option.some.injEq] at ho; subst ho; intro K hK)
    go_simp
    (refine hK.out _ _ (fun h => by simp at h) ?_; clear hK K; try simp only [Act.put, List.setIfInBounds_toArray, List.set_cons_zero, List.set_cons_succ])
    refine wpSeq_done ?_
    clear x0 x1 x2 x3 y0 y1 y2 y3
    go_wp2_with fail
    have hZ := (((HR9.out.set_ 0 (.int .i64 7)).set_ 1 (.string ⟨#[]⟩)).set_ 2 (.int .i64 0)).set_ 3 (.slice (some ⟨bb, 0, none⟩) 2 2)
    have z0 := hZ.cell 0
    have z1 := hZ.cell 1
    have z2 := hZ.cell 2
    have z3 := hZ.cell 3
    refine bodyPost_ret (v := .agg #[.int .i64 7, .string ⟨#[]⟩, .int .i64 0, .slice (some ⟨bb, 0, none⟩) 2 2]) (by simp [results, Tryz.results41, go_sem, z0, z1, z2, z3]) rfl ?_
    exact rs_store HP9.out HQ9.out (by omega) (by omega)
end Go.Proofs.YtijecfmblddanaaGreatDoor

set_option linter.unusedVariables false
set_option linter.unusedSimpArgs false
namespace Go.Proofs.YtijecfmblddanaaGreatDoor
open Go.RowKit Go.Maps

section
variable {l : List Tk} {g : List KT → PR} {u r : Int} {s : RS} {a b : Fm} {k2 k4 : Nat}
/-- The state behind it all, and what is handed back. -/
def s1U (l : List Tk) (s : RS) : RS := needS l s [91]
def r2U (l : List Tk) (g : List KT → PR) (s : RS) : PR := rOf l g (s1U l s)
def isU (l : List Tk) (g : List KT → PR) (s : RS) : Bool := isS l (stOf l (r2U l g s)) [82]
def s3U (l : List Tk) (g : List KT → PR) (s : RS) : RS := needS l (stOf l (r2U l g s)) (if isU l g s then [82] else [85])
def r4U (l : List Tk) (g : List KT → PR) (s : RS) : PR := rOf l g (s3U l g s)
def s5U (l : List Tk) (g : List KT → PR) (s : RS) : RS := needS l (stOf l (r4U l g s)) [93]

theorem until_off {e : Int} {m : Nat} : s5U l g (.off e m) = .off e m ∧ rOf l (untilP g u r) (.off e m) = .bad e m := ⟨rfl, rfl⟩
theorem until_on {k : Nat} (hk2 : k2 < l.length) (hk4 : k4 < l.length) (h2 : ∀ f t, r2U l g (.on k) = .ok f t → a = f ∧ t = leftT l k2) (h4 : ∀ f t, r4U l g (.on k) = .ok f t → b = f ∧ t = leftT l k4) (hk5 : s5U l g (.on k) = .on (k4 + 1) → k4 + 1 < l.length) :
    stOf l (rOf l (untilP g u r) (.on k)) = s5U l g (.on k) ∧ ∀ f t, rOf l (untilP g u r) (.on k) = .ok f t → .mk (if isU l g (.on k) then r else u) [] 0 [a, b] = f ∧ t = leftT l (k4 + 1) ∧ s5U l g (.on k) = .on (k4 + 1) := by
  show stOf l (untilP g u r (leftT l k)) = _ ∧ ∀ f t, untilP g u r (leftT l k) = .ok f t → _
  unfold untilP needP
  by_cases c1 : takes [91] (leftT l k) = true
  · rw [if_pos c1, leftT_tail]
    try dsimp only
    have e1 : s1U l (.on k) = .on (k + 1) := by show (if takes [91] (leftT l k) then _ else _) = _; rw [if_pos c1]
    have e2 : r2U l g (.on k) = g (leftT l (k + 1)) := by unfold r2U; rw [e1]; rfl
    cases hg : g (leftT l (k + 1)) with
    | bad e m =>
      have e3 : r2U l g (.on k) = .bad e m := by rw [e2, hg]
      have e4 : s3U l g (.on k) = .off e m := by unfold s3U; rw [e3]; rfl
      have e5 : s5U l g (.on k) = .off e m := by unfold s5U r4U; rw [e4]; rfl
      rw [e5]
      exact ⟨rfl, fun f t h => by cases h⟩
    | ok f2 t2 =>
      have e3 : r2U l g (.on k) = .ok f2 t2 := by rw [e2, hg]
      obtain ⟨rfl, rfl⟩ := h2 _ _ e3
      have e3' : stOf l (r2U l g (.on k)) = .on k2 := by rw [e3, stOf_left hk2]
      rw [PR.bind_ok]
      try dsimp only
      have main : ∀ (x : List UInt8) (kd : Int), (if isU l g (.on k) then [82] else [85]) = x → (if isU l g (.on k) then r else u) = kd →
          stOf l (needP x (leftT l k2) fun t3 => (g t3).bind fun b t4 => needP [93] t4 fun t5 => .ok (.mk kd [] 0 [a, b]) t5) = s5U l g (.on k) ∧
          ∀ f t, (needP x (leftT l k2) fun t3 => (g t3).bind fun b t4 => needP [93] t4 fun t5 => .ok (.mk kd [] 0 [a, b]) t5) = .ok f t → .mk kd [] 0 [a, b] = f ∧ t = leftT l (k4 + 1) ∧ s5U l g (.on k) = .on (k4 + 1) := by
        intro x kd hx hkd
        unfold needP
        have es3 : s3U l g (.on k) = if takes x (leftT l k2) then .on (k2 + 1) else .off 41 (l.length - k2) := by
          unfold s3U
          rw [e3', hx]
          rfl
        by_cases c3 : takes x (leftT l k2) = true
        · rw [if_pos c3, leftT_tail]
          try dsimp only
          rw [if_pos c3] at es3
          have e6 : r4U l g (.on k) = g (leftT l (k2 + 1)) := by unfold r4U; rw [es3]; rfl
          cases hg4 : g (leftT l (k2 + 1)) with
          | bad e m =>
            have e7 : s5U l g (.on k) = .off e m := by unfold s5U; rw [e6, hg4]; rfl
            rw [e7]
            exact ⟨rfl, fun f t h => by cases h⟩
          | ok f4 t4 =>
            have e8 : r4U l g (.on k) = .ok f4 t4 := by rw [e6, hg4]
            obtain ⟨rfl, rfl⟩ := h4 _ _ e8
            rw [PR.bind_ok]
            try dsimp only
            have e9 : s5U l g (.on k) = if takes [93] (leftT l k4) then .on (k4 + 1) else .off 41 (l.length - k4) := by
              unfold s5U
              rw [e8, stOf_left hk4]
              rfl
            by_cases c5 : takes [93] (leftT l k4) = true
            · rw [if_pos c5, leftT_tail]
              try dsimp only
              rw [if_pos c5] at e9
              rw [e9]
              exact ⟨stOf_left (hk5 e9), fun f t h => by cases h; exact ⟨rfl, rfl, rfl⟩⟩
            · rw [if_neg c5]
              rw [if_neg c5] at e9
              rw [e9]
              refine ⟨?_, fun f t h => by cases h⟩
              show RS.off 41 (leftT l k4).length = _
              rw [leftT_len]
        · rw [if_neg c3]
          rw [if_neg c3] at es3
          have e7 : s5U l g (.on k) = .off 41 (l.length - k2) := by unfold s5U r4U; rw [es3]; rfl
          rw [e7]
          refine ⟨?_, fun f t h => by cases h⟩
          show RS.off 41 (leftT l k2).length = _
          rw [leftT_len]
      have ei : isU l g (.on k) = takes [82] (leftT l k2) := by unfold isU; rw [e3']; rfl
      by_cases c2 : takes [82] (leftT l k2) = true
      · have h := main [82] r (by rw [ei, if_pos c2]) (by rw [ei, if_pos c2])
        unfold needP at h
        rw [if_pos c2] at h
        rw [if_pos c2, ei, if_pos c2]
        exact h
      · have h := main [85] u (by rw [ei, if_neg c2]) (by rw [ei, if_neg c2])
        unfold needP at h
        rw [if_neg c2, ei, if_neg c2]
        exact h
  · rw [if_neg c1]
    have e1 : s1U l (.on k) = .off 41 (l.length - k) := by show (if takes [91] (leftT l k) then _ else _) = _; rw [if_neg c1]
    have e5 : s5U l g (.on k) = .off 41 (l.length - k) := by unfold s5U r4U s3U r2U; rw [e1]; rfl
    rw [e5]
    refine ⟨?_, fun f t h => by cases h⟩
    show RS.off 41 (leftT l k).length = _
    rw [leftT_len]
end

section
variable {w : World} {pb tb to c k0 : Nat} {l : List Tk}
set_option maxRecDepth 100000 in
set_option maxHeartbeats 8000000 in
theorem runtil_any (hT : ToksOk l) (s : RS) (bad0 deep0 : Bool) (hS : RsSt w pb tb to c l s k0 bad0 deep0) (al d : Int) (hal : al = 0 ∨ al = 1) (hd : 0 ≤ d ∧ d ≤ 100000) (g : List KT → PR)
    (hG : PartsR 26 #[.pointer (some ⟨pb, 0, none⟩), .int .i64 (d + 1)] w pb tb to c l k0 g) :
    Calls Tryz.prog 88 #[.pointer (some ⟨pb, 0, none⟩), .int .i64 al, .int .i64 d] w (RPost w pb tb to c l k0 (rOf l (untilP g (15 + al) (17 + al)) s)) := by
  have hpl := hS.lt
  have htl := hS.t.lt
  have hbA := stepA w (.cells #[.int .i64 0, .string ⟨#[]⟩, .int .i64 0, .slice none 0 0] 28)
  have HR0 := Lib.hid (Blk.new w 28 #[.int .i64 0, .string ⟨#[]⟩, .int .i64 0, .slice none 0 0])
  have HG0 := Lib.hid (grown_of hbA (some pb))
  have HS0 := Lib.hid (hS.after hbA)
  have HG := Lib.hid hG
  obtain ⟨hd0, hd1⟩ := hd
  have hal0 : 0 ≤ al := by omega
  have hal1 : al ≤ 1 := by omega
  clear hbA hG hS hal
  go_enter Tryz.func88, Tryz.ntmps88
  go_wp2_with fail
  have hw1 : (w.alloc (.cells #[.int .i64 0, .string ⟨#[]⟩, .int .i64 0, .slice none 0 0] 28)).heap.size = w.heap.size + 1 := World.size_alloc _ _
  generalize w.alloc (.cells #[.int .i64 0, .string ⟨#[]⟩, .int .i64 0, .slice none 0 0] 28) = w1 at HR0 HG0 HS0 hw1 ⊢
  refine (rneed_any hT HS0.out [91]).mono ?_
  rintro e w2 ⟨k1, bad1, deep1, rfl, hS1, hg1, hk1⟩
  have hz2 := hg1.size
  have HS1 : Hid (RsSt w2 pb tb to c l (s1U l s) k1 bad1 deep1) := Lib.hid hS1
  have HG1 := Lib.hid (grown_trans HG0.out hg1)
  have HR1 := Lib.hid (HR0.out.grown hg1 (by simp; omega))
  clear hS1 hg1 HS0 HG0 HR0
  go_wp2_with fail
  refine (HG.out w2 (s1U l s) k1 bad1 deep1 HG1.out HS1.out hk1).mono ?_
  rintro e w3 ⟨a, A1, c1, k2, bad2, deep2, rfl, hP⟩
  have hs3 := hP.g.size
  have hbA := stepA w3 (.cells #[.int .i64 a.kind, .string ⟨a.name.toArray⟩, .int .i64 a.lit, .slice A1 a.kids.length c1] 28)
  have HXA := Lib.hid (Blk.new w3 28 #[.int .i64 a.kind, .string ⟨a.name.toArray⟩, .int .i64 a.lit, .slice A1 a.kids.length c1])
  have HR3 := Lib.hid ((HR1.out.grown hP.g (by simp; omega)).alloc (.cells #[.int .i64 a.kind, .string ⟨a.name.toArray⟩, .int .i64 a.lit, .slice A1 a.kids.length c1] 28))
  have HG3 := Lib.hid (grown_trans (grown_trans HG1.out hP.g) (grown_of hbA _))
  have HS3 : Hid (RsSt (w3.alloc (.cells #[.int .i64 a.kind, .string ⟨a.name.toArray⟩, .int .i64 a.lit, .slice A1 a.kids.length c1] 28)) pb tb to c l (stOf l (r2U l g s)) k2 bad2 deep2) := Lib.hid (hP.s.after hbA)
  have HV3 : Hid (FmVQ (w3.alloc (.cells #[.int .i64 a.kind, .string ⟨a.name.toArray⟩, .int .i64 a.lit, .slice A1 a.kids.length c1] 28)) (fun q => w.heap.size < q ∧ q < (w3.alloc (.cells #[.int .i64 a.kind, .string ⟨a.name.toArray⟩, .int .i64 a.lit, .slice A1 a.kids.length c1] 28)).heap.size) a A1 c1) := Lib.hid (hP.v.low (B := w3.heap.size) (fun q hq => by simp only [World.size_alloc]; omega) hbA)
  have HF2 : Hid (∀ f t, r2U l g s = .ok f t → a = f ∧ t = leftT l k2) := Lib.hid hP.f
  have hk2 := hP.km
  have hk2l := hP.s.k
  obtain ⟨xa, hxa⟩ : ∃ xa, xa = w3.heap.size := ⟨_, rfl⟩
  have hxaw : w.heap.size < xa := by omega
  have hxal : xa < (w3.alloc (.cells #[.int .i64 a.kind, .string ⟨a.name.toArray⟩, .int .i64 a.lit, .slice A1 a.kids.length c1] 28)).heap.size := by rw [hxa]; simp
  rw [← hxa] at HXA
  clear hP hbA hs3 HR1 HG1 HS1
  unfold fmA
  go_wp2_with fail
  rw [← hxa]
  generalize w3.alloc (.cells #[.int .i64 a.kind, .string ⟨a.name.toArray⟩, .int .i64 a.lit, .slice A1 a.kids.length c1] 28) = w4 at HXA HR3 HG3 HS3 HV3 hxal ⊢
  clear hxa
  have HIS := Lib.hid (ris_any HS3.out [82])
  cases hi : isU l g s with
  | false =>
    have HIU := Lib.hid hi
    have hi' : isS l (stOf l (r2U l g s)) [82] = false := hi
    rw [hi'] at HIS
    clear hi hi'
    refine HIS.out.mono ?_
    rintro e w5 ⟨rfl, hb5⟩
    have hz5 := hb5.size
    have HXA5 := Lib.hid (HXA.out.below hb5 hxal)
    have HR5 := Lib.hid (HR3.out.below hb5 HR3.out.lt)
    have HG5 := Lib.hid (grown_trans HG3.out (grown_of hb5 _))
    have HS5 := Lib.hid (HS3.out.after hb5)
    have HV5 : Hid (FmVQ w5 (fun q => w.heap.size < q ∧ q < w5.heap.size) a A1 c1) := Lib.hid (HV3.out.low (B := w4.heap.size) (fun q hq => ⟨hq.2, hq.1, by omega⟩) hb5)
    clear hb5 HXA HR3 HG3 HS3 HV3 HIS
    go_wp2_with fail
    refine (rneed_any hT HS5.out [85]).mono ?_
    rintro e w6 ⟨k3, bad3, deep3, rfl, hS6, hg6, hk3⟩
    have hz6 := hg6.size
    have HS6 : Hid (RsSt w6 pb tb to c l (s3U l g s) k3 bad3 deep3) := Lib.hid (by unfold s3U; rw [HIU.out]; exact hS6)
    have HG6 := Lib.hid (grown_trans HG5.out hg6)
    have HR6 := Lib.hid (HR5.out.grown hg6 (by simp; omega))
    have HXA6 := Lib.hid (HXA5.out.grown hg6 (by simp; omega))
    have HV6 : Hid (FmVQ w6 (fun q => w.heap.size < q ∧ q < w6.heap.size) a A1 c1) := Lib.hid (HV5.out.keep (fun q hq => ⟨hq.1, by omega⟩) (fun q hq => hg6.block q hq.2 (by have := hq.1; simp; omega)))
    clear hS6 hg6 HS5 HG5 HR5 HXA5 HV5
    go_wp2_with fail
    refine (HG.out w6 (s3U l g s) k3 bad3 deep3 HG6.out HS6.out (by omega)).mono ?_
    rintro e w7 ⟨b, A2, c2, k4, bad4, deep4, rfl, hP⟩
    have hs7 := hP.g.size
    have hbB := stepA w7 (.cells #[.int .i64 b.kind, .string ⟨b.name.toArray⟩, .int .i64 b.lit, .slice A2 b.kids.length c2] 28)
    have HXB := Lib.hid (Blk.new w7 28 #[.int .i64 b.kind, .string ⟨b.name.toArray⟩, .int .i64 b.lit, .slice A2 b.kids.length c2])
    have HR7 := Lib.hid ((HR6.out.grown hP.g (by simp; omega)).alloc (.cells #[.int .i64 b.kind, .string ⟨b.name.toArray⟩, .int .i64 b.lit, .slice A2 b.kids.length c2] 28))
    have HXA7 := Lib.hid ((HXA6.out.grown hP.g (by simp; omega)).alloc (.cells #[.int .i64 b.kind, .string ⟨b.name.toArray⟩, .int .i64 b.lit, .slice A2 b.kids.length c2] 28))
    have HG7 := Lib.hid (grown_trans (grown_trans HG6.out hP.g) (grown_of hbB _))
    have HS7 : Hid (RsSt (w7.alloc (.cells #[.int .i64 b.kind, .string ⟨b.name.toArray⟩, .int .i64 b.lit, .slice A2 b.kids.length c2] 28)) pb tb to c l (stOf l (r4U l g s)) k4 bad4 deep4) := Lib.hid (hP.s.after hbB)
    have HV7 : Hid (FmVQ (w7.alloc (.cells #[.int .i64 b.kind, .string ⟨b.name.toArray⟩, .int .i64 b.lit, .slice A2 b.kids.length c2] 28)) (fun q => w.heap.size < q ∧ q < (w7.alloc (.cells #[.int .i64 b.kind, .string ⟨b.name.toArray⟩, .int .i64 b.lit, .slice A2 b.kids.length c2] 28)).heap.size) a A1 c1) := Lib.hid ((HV6.out.keep (w' := w7) (Q' := fun q => w.heap.size < q ∧ q < w7.heap.size) (fun q hq => ⟨hq.1, by omega⟩) (fun q hq => hP.g.block q hq.2 (by have := hq.1; simp; omega))).low (B := w7.heap.size) (fun q hq => by simp only [World.size_alloc]; omega) hbB)
    have HU7 : Hid (FmVQ (w7.alloc (.cells #[.int .i64 b.kind, .string ⟨b.name.toArray⟩, .int .i64 b.lit, .slice A2 b.kids.length c2] 28)) (fun q => w.heap.size < q ∧ q < (w7.alloc (.cells #[.int .i64 b.kind, .string ⟨b.name.toArray⟩, .int .i64 b.lit, .slice A2 b.kids.length c2] 28)).heap.size) b A2 c2) := Lib.hid (hP.v.low (B := w7.heap.size) (fun q hq => by simp only [World.size_alloc]; omega) hbB)
    have HF4 : Hid (∀ f t, r4U l g s = .ok f t → b = f ∧ t = leftT l k4) := Lib.hid hP.f
    have hk4 := hP.km
    have hk4l := hP.s.k
    obtain ⟨xb, hxb⟩ : ∃ xb, xb = w7.heap.size := ⟨_, rfl⟩
    have hxbw : xa < xb := by omega
    have hxbl : xb < (w7.alloc (.cells #[.int .i64 b.kind, .string ⟨b.name.toArray⟩, .int .i64 b.lit, .slice A2 b.kids.length c2] 28)).heap.size := by rw [hxb]; simp
    have hxab : xa < (w7.alloc (.cells #[.int .i64 b.kind, .string ⟨b.name.toArray⟩, .int .i64 b.lit, .slice A2 b.kids.length c2] 28)).heap.size := by omega
    rw [← hxb] at HXB
    clear hP hbB hs7 HR6 HG6 HS6 HXA6 HV6
    unfold fmA
    go_wp2_with fail
    rw [← hxb]
    generalize w7.alloc (.cells #[.int .i64 b.kind, .string ⟨b.name.toArray⟩, .int .i64 b.lit, .slice A2 b.kids.length c2] 28) = w8 at HXB HXA7 HR7 HG7 HS7 HV7 HU7 hxbl hxab ⊢
    clear hxb
    refine (rneed_any hT HS7.out [93]).mono ?_
    rintro e w9 ⟨k5, bad5, deep5, rfl, hS9, hg9, hk5⟩
    have hz9 := hg9.size
    have hXA9 := HXA7.out.grown hg9 (by simp; omega)
    have hXB9 := HXB.out.grown hg9 (by simp; omega)
    have HR9 := Lib.hid (HR7.out.grown hg9 (by simp; omega))
    have HG9 := Lib.hid (grown_trans HG7.out hg9)
    have HS9 : Hid (RsSt w9 pb tb to c l (s5U l g s) k5 bad5 deep5) := Lib.hid hS9
    have HV9 : Hid (FmVQ w9 (fun q => w.heap.size < q ∧ q < w9.heap.size) a A1 c1) := Lib.hid (HV7.out.keep (fun q hq => ⟨hq.1, by omega⟩) (fun q hq => hg9.block q hq.2 (by have := hq.1; simp; omega)))
    have HU9 : Hid (FmVQ w9 (fun q => w.heap.size < q ∧ q < w9.heap.size) b A2 c2) := Lib.hid (HU7.out.keep (fun q hq => ⟨hq.1, by omega⟩) (fun q hq => hg9.block q hq.2 (by have := hq.1; simp; omega)))
    have a0 := hXA9.cell 0
    have a1 := hXA9.cell 1
    have a2 := hXA9.cell 2
    have a3 := hXA9.cell 3
    have b0 := hXB9.cell 0
    have b1 := hXB9.cell 1
    have b2 := hXB9.cell 2
    have b3 := hXB9.cell 3
    clear hS9 hg9 hXA9 hXB9 HXB HXA7 HR7 HG7 HS7 HV7 HU7
    go_wp2_with fail
    refine (two_any (15 + al) a b A1 A2 c1 c2 _).mono ?_
    rintro e w10 ⟨bb, rfl, hbb, hRW, hb10⟩
    have hs10 := hb10.size
    have HR10 := Lib.hid (HR9.out.below hb10 HR9.out.lt)
    have HP10 : Hid (RsOk w pb tb to c l k0 (rOf l (untilP g (15 + al) (17 + al)) s) (.mk (15 + al) [] 0 [a, b]) (some ⟨bb, 0, none⟩) 2 k5 bad5 deep5 w10) := Lib.hid (by
      have hv : FmVQ w10 (fun q => w.heap.size ≤ q ∧ q < w10.heap.size) (.mk (15 + al) [] 0 [a, b]) (some ⟨bb, 0, none⟩) 2 := ⟨by simp [Fm.kids], by simp [Fm.kids], by simp [Fm.kind]; omega, by simp [Fm.name], FmQ.two ⟨by omega, hRW.lt⟩ hRW (HV9.out.low (B := w9.heap.size) (fun q hq => ⟨hq.2, by omega, by omega⟩) hb10) (HU9.out.low (B := w9.heap.size) (fun q hq => ⟨hq.2, by omega, by omega⟩) hb10)⟩
      have hg : w.grownBy w10 (some pb) := grown_trans HG9.out (grown_of hb10 _)
      have hs := HS9.out.after hb10
      have hiu := HIU.out
      have hf2 := HF2.out
      have hf4 := HF4.out
      cases s with
      | off e m => exact ⟨by omega, hg, hs, hv, fun f t h => by cases h⟩
      | on k =>
        have hi5 : s5U l g (.on k) = .on (k4 + 1) → k5 = k4 + 1 := fun h => by
          have := hs.i
          rw [h] at this
          exact this.1
        obtain ⟨e1, e2⟩ := until_on (u := 15 + al) (r := 17 + al) hk2l hk4l hf2 hf4 (fun h => by have := hs.k; have := hi5 h; omega)
        rw [hiu] at e2
        refine ⟨by omega, hg, by rw [e1]; exact hs, hv, fun f t h => ?_⟩
        obtain ⟨h1, h2, h3⟩ := e2 f t h
        exact ⟨h1, by rw [h2, hi5 h3]⟩)
    have HQ10 : Hid (FmVQ w10 (fun q => w.heap.size < q ∧ q < w10.heap.size) (.mk (15 + al) [] 0 [a, b]) (some ⟨bb, 0, none⟩) 2) := Lib.hid ⟨by simp [Fm.kids], by simp [Fm.kids], by simp [Fm.kind]; omega, by simp [Fm.name], FmQ.two ⟨by omega, hRW.lt⟩ hRW (HV9.out.low (B := w9.heap.size) (fun q hq => ⟨hq.2, by omega, by omega⟩) hb10) (HU9.out.low (B := w9.heap.size) (fun q hq => ⟨hq.2, by omega, by omega⟩) hb10)⟩
    clear hb10 hRW a0 a1 a2 a3 b0 b1 b2 b3
    have y0 := HR10.out.cell 0
    have y1 := HR10.out.cell 1
    have y2 := HR10.out.cell 2
    have y3 := HR10.out.cell 3
    have x0 := HR10.out.frozen 0
    have x1 := HR10.out.frozen 1
    have x2 := HR10.out.frozen 2
    have x3 := HR10.out.frozen 3
    go_wp2_with fail
    clear x0 x1 x2 x3 y0 y1 y2 y3
    have hZ := (((HR10.out.set_ 0 (.int .i64 (15 + al))).set_ 1 (.string ⟨#[]⟩)).set_ 2 (.int .i64 0)).set_ 3 (.slice (some ⟨bb, 0, none⟩) 2 2)
    have z0 := hZ.cell 0
    have z1 := hZ.cell 1
    have z2 := hZ.cell 2
    have z3 := hZ.cell 3
    refine bodyPost_ret (v := .agg #[.int .i64 (15 + al), .string ⟨#[]⟩, .int .i64 0, .slice (some ⟨bb, 0, none⟩) 2 2]) (by simp [results, Tryz.results88, go_sem, z0, z1, z2, z3]) rfl ?_
    exact rs_store HP10.out HQ10.out (by omega) (by omega)
  | true =>
    have HIU := Lib.hid hi
    have hi' : isS l (stOf l (r2U l g s)) [82] = true := hi
    rw [hi'] at HIS
    clear hi hi'
    refine HIS.out.mono ?_
    rintro e w5 ⟨rfl, hb5⟩
    have hz5 := hb5.size
    have HXA5 := Lib.hid (HXA.out.below hb5 hxal)
    have HR5 := Lib.hid (HR3.out.below hb5 HR3.out.lt)
    have HG5 := Lib.hid (grown_trans HG3.out (grown_of hb5 _))
    have HS5 := Lib.hid (HS3.out.after hb5)
    have HV5 : Hid (FmVQ w5 (fun q => w.heap.size < q ∧ q < w5.heap.size) a A1 c1) := Lib.hid (HV3.out.low (B := w4.heap.size) (fun q hq => ⟨hq.2, hq.1, by omega⟩) hb5)
    clear hb5 HXA HR3 HG3 HS3 HV3 HIS
    go_wp2_with fail
    refine (rneed_any hT HS5.out [82]).mono ?_
    rintro e w6 ⟨k3, bad3, deep3, rfl, hS6, hg6, hk3⟩
    have hz6 := hg6.size
    have HS6 : Hid (RsSt w6 pb tb to c l (s3U l g s) k3 bad3 deep3) := Lib.hid (by unfold s3U; rw [HIU.out]; exact hS6)
    have HG6 := Lib.hid (grown_trans HG5.out hg6)
    have HR6 := Lib.hid (HR5.out.grown hg6 (by simp; omega))
    have HXA6 := Lib.hid (HXA5.out.grown hg6 (by simp; omega))
    have HV6 : Hid (FmVQ w6 (fun q => w.heap.size < q ∧ q < w6.heap.size) a A1 c1) := Lib.hid (HV5.out.keep (fun q hq => ⟨hq.1, by omega⟩) (fun q hq => hg6.block q hq.2 (by have := hq.1; simp; omega)))
    clear hS6 hg6 HS5 HG5 HR5 HXA5 HV5
    go_wp2_with fail
    refine (HG.out w6 (s3U l g s) k3 bad3 deep3 HG6.out HS6.out (by omega)).mono ?_
    rintro e w7 ⟨b, A2, c2, k4, bad4, deep4, rfl, hP⟩
    have hs7 := hP.g.size
    have hbB := stepA w7 (.cells #[.int .i64 b.kind, .string ⟨b.name.toArray⟩, .int .i64 b.lit, .slice A2 b.kids.length c2] 28)
    have HXB := Lib.hid (Blk.new w7 28 #[.int .i64 b.kind, .string ⟨b.name.toArray⟩, .int .i64 b.lit, .slice A2 b.kids.length c2])
    have HR7 := Lib.hid ((HR6.out.grown hP.g (by simp; omega)).alloc (.cells #[.int .i64 b.kind, .string ⟨b.name.toArray⟩, .int .i64 b.lit, .slice A2 b.kids.length c2] 28))
    have HXA7 := Lib.hid ((HXA6.out.grown hP.g (by simp; omega)).alloc (.cells #[.int .i64 b.kind, .string ⟨b.name.toArray⟩, .int .i64 b.lit, .slice A2 b.kids.length c2] 28))
    have HG7 := Lib.hid (grown_trans (grown_trans HG6.out hP.g) (grown_of hbB _))
    have HS7 : Hid (RsSt (w7.alloc (.cells #[.int .i64 b.kind, .string ⟨b.name.toArray⟩, .int .i64 b.lit, .slice A2 b.kids.length c2] 28)) pb tb to c l (stOf l (r4U l g s)) k4 bad4 deep4) := Lib.hid (hP.s.after hbB)
    have HV7 : Hid (FmVQ (w7.alloc (.cells #[.int .i64 b.kind, .string ⟨b.name.toArray⟩, .int .i64 b.lit, .slice A2 b.kids.length c2] 28)) (fun q => w.heap.size < q ∧ q < (w7.alloc (.cells #[.int .i64 b.kind, .string ⟨b.name.toArray⟩, .int .i64 b.lit, .slice A2 b.kids.length c2] 28)).heap.size) a A1 c1) := Lib.hid ((HV6.out.keep (w' := w7) (Q' := fun q => w.heap.size < q ∧ q < w7.heap.size) (fun q hq => ⟨hq.1, by omega⟩) (fun q hq => hP.g.block q hq.2 (by have := hq.1; simp; omega))).low (B := w7.heap.size) (fun q hq => by simp only [World.size_alloc]; omega) hbB)
    have HU7 : Hid (FmVQ (w7.alloc (.cells #[.int .i64 b.kind, .string ⟨b.name.toArray⟩, .int .i64 b.lit, .slice A2 b.kids.length c2] 28)) (fun q => w.heap.size < q ∧ q < (w7.alloc (.cells #[.int .i64 b.kind, .string ⟨b.name.toArray⟩, .int .i64 b.lit, .slice A2 b.kids.length c2] 28)).heap.size) b A2 c2) := Lib.hid (hP.v.low (B := w7.heap.size) (fun q hq => by simp only [World.size_alloc]; omega) hbB)
    have HF4 : Hid (∀ f t, r4U l g s = .ok f t → b = f ∧ t = leftT l k4) := Lib.hid hP.f
    have hk4 := hP.km
    have hk4l := hP.s.k
    obtain ⟨xb, hxb⟩ : ∃ xb, xb = w7.heap.size := ⟨_, rfl⟩
    have hxbw : xa < xb := by omega
    have hxbl : xb < (w7.alloc (.cells #[.int .i64 b.kind, .string ⟨b.name.toArray⟩, .int .i64 b.lit, .slice A2 b.kids.length c2] 28)).heap.size := by rw [hxb]; simp
    have hxab : xa < (w7.alloc (.cells #[.int .i64 b.kind, .string ⟨b.name.toArray⟩, .int .i64 b.lit, .slice A2 b.kids.length c2] 28)).heap.size := by omega
    rw [← hxb] at HXB
    clear hP hbB hs7 HR6 HG6 HS6 HXA6 HV6
    unfold fmA
    go_wp2_with fail
    rw [← hxb]
    generalize w7.alloc (.cells #[.int .i64 b.kind, .string ⟨b.name.toArray⟩, .int .i64 b.lit, .slice A2 b.kids.length c2] 28) = w8 at HXB HXA7 HR7 HG7 HS7 HV7 HU7 hxbl hxab ⊢
    clear hxb
    refine (rneed_any hT HS7.out [93]).mono ?_
    rintro e w9 ⟨k5, bad5, deep5, rfl, hS9, hg9, hk5⟩
    have hz9 := hg9.size
    have hXA9 := HXA7.out.grown hg9 (by simp; omega)
    have hXB9 := HXB.out.grown hg9 (by simp; omega)
    have HR9 := Lib.hid (HR7.out.grown hg9 (by simp; omega))
    have HG9 := Lib.hid (grown_trans HG7.out hg9)
    have HS9 : Hid (RsSt w9 pb tb to c l (s5U l g s) k5 bad5 deep5) := Lib.hid hS9
    have HV9 : Hid (FmVQ w9 (fun q => w.heap.size < q ∧ q < w9.heap.size) a A1 c1) := Lib.hid (HV7.out.keep (fun q hq => ⟨hq.1, by omega⟩) (fun q hq => hg9.block q hq.2 (by have := hq.1; simp; omega)))
    have HU9 : Hid (FmVQ w9 (fun q => w.heap.size < q ∧ q < w9.heap.size) b A2 c2) := Lib.hid (HU7.out.keep (fun q hq => ⟨hq.1, by omega⟩) (fun q hq => hg9.block q hq.2 (by have := hq.1; simp; omega)))
    have a0 := hXA9.cell 0
    have a1 := hXA9.cell 1
    have a2 := hXA9.cell 2
    have a3 := hXA9.cell 3
    have b0 := hXB9.cell 0
    have b1 := hXB9.cell 1
    have b2 := hXB9.cell 2
    have b3 := hXB9.cell 3
    clear hS9 hg9 hXA9 hXB9 HXB HXA7 HR7 HG7 HS7 HV7 HU7
    go_wp2_with fail
    refine (two_any (17 + al) a b A1 A2 c1 c2 _).mono ?_
    rintro e w10 ⟨bb, rfl, hbb, hRW, hb10⟩
    have hs10 := hb10.size
    have HR10 := Lib.hid (HR9.out.below hb10 HR9.out.lt)
    have HP10 : Hid (RsOk w pb tb to c l k0 (rOf l (untilP g (15 + al) (17 + al)) s) (.mk (17 + al) [] 0 [a, b]) (some ⟨bb, 0, none⟩) 2 k5 bad5 deep5 w10) := Lib.hid (by
      have hv : FmVQ w10 (fun q => w.heap.size ≤ q ∧ q < w10.heap.size) (.mk (17 + al) [] 0 [a, b]) (some ⟨bb, 0, none⟩) 2 := ⟨by simp [Fm.kids], by simp [Fm.kids], by simp [Fm.kind]; omega, by simp [Fm.name], FmQ.two ⟨by omega, hRW.lt⟩ hRW (HV9.out.low (B := w9.heap.size) (fun q hq => ⟨hq.2, by omega, by omega⟩) hb10) (HU9.out.low (B := w9.heap.size) (fun q hq => ⟨hq.2, by omega, by omega⟩) hb10)⟩
      have hg : w.grownBy w10 (some pb) := grown_trans HG9.out (grown_of hb10 _)
      have hs := HS9.out.after hb10
      have hiu := HIU.out
      have hf2 := HF2.out
      have hf4 := HF4.out
      cases s with
      | off e m => exact ⟨by omega, hg, hs, hv, fun f t h => by cases h⟩
      | on k =>
        have hi5 : s5U l g (.on k) = .on (k4 + 1) → k5 = k4 + 1 := fun h => by
          have := hs.i
          rw [h] at this
          exact this.1
        obtain ⟨e1, e2⟩ := until_on (u := 15 + al) (r := 17 + al) hk2l hk4l hf2 hf4 (fun h => by have := hs.k; have := hi5 h; omega)
        rw [hiu] at e2
        refine ⟨by omega, hg, by rw [e1]; exact hs, hv, fun f t h => ?_⟩
        obtain ⟨h1, h2, h3⟩ := e2 f t h
        exact ⟨h1, by rw [h2, hi5 h3]⟩)
    have HQ10 : Hid (FmVQ w10 (fun q => w.heap.size < q ∧ q < w10.heap.size) (.mk (17 + al) [] 0 [a, b]) (some ⟨bb, 0, none⟩) 2) := Lib.hid ⟨by simp [Fm.kids], by simp [Fm.kids], by simp [Fm.kind]; omega, by simp [Fm.name], FmQ.two ⟨by omega, hRW.lt⟩ hRW (HV9.out.low (B := w9.heap.size) (fun q hq => ⟨hq.2, by omega, by omega⟩) hb10) (HU9.out.low (B := w9.heap.size) (fun q hq => ⟨hq.2, by omega, by omega⟩) hb10)⟩
    clear hb10 hRW a0 a1 a2 a3 b0 b1 b2 b3
    have y0 := HR10.out.cell 0
    have y1 := HR10.out.cell 1
    have y2 := HR10.out.cell 2
    have y3 := HR10.out.cell 3
    have x0 := HR10.out.frozen 0
    have x1 := HR10.out.frozen 1
    have x2 := HR10.out.frozen 2
    have x3 := HR10.out.frozen 3
    go_wp2_with fail
    clear x0 x1 x2 x3 y0 y1 y2 y3
    have hZ := (((HR10.out.set_ 0 (.int .i64 (17 + al))).set_ 1 (.string ⟨#[]⟩)).set_ 2 (.int .i64 0)).set_ 3 (.slice (some ⟨bb, 0, none⟩) 2 2)
    have z0 := hZ.cell 0
    have z1 := hZ.cell 1
    have z2 := hZ.cell 2
    have z3 := hZ.cell 3
    refine bodyPost_ret (v := .agg #[.int .i64 (17 + al), .string ⟨#[]⟩, .int .i64 0, .slice (some ⟨bb, 0, none⟩) 2 2]) (by simp [results, Tryz.results88, go_sem, z0, z1, z2, z3]) rfl ?_
    exact rs_store HP10.out HQ10.out (by omega) (by omega)
end
end Go.Proofs.YtijecfmblddanaaGreatDoor
