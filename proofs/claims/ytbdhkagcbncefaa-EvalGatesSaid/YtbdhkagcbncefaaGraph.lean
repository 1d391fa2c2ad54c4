/- The package graph: whether a graph may be, a literal, what needs no gate. -/
import Derived.Test.YtbdhkagcbncefaaFind
namespace Go.Proofs.Ytbdhkagcbncefaa
open Go.RowKit Go.Maps

/-- The list of gates fits. -/
def GOk (g : Gr) : Prop := (Lit.int .i64 g.n).wf = true ∧ g.as.length ≤ 8796093022208 ∧ ∀ p ∈ g.as, PrOk p

theorem wf_iff (x : Int) : (Lit.int .i64 x).wf = true ↔ (-9223372036854775808 ≤ x ∧ x ≤ 9223372036854775807) := by
  simp [Lit.wf, IntKind.min, IntKind.max, IntKind.signed, IntKind.bits]

theorem tdiv2 (l : Int) : l.tdiv 2 = if 0 ≤ l then l / 2 else -((-l) / 2) := by
  split
  · rename_i h
    exact Int.tdiv_eq_ediv_of_nonneg h
  · rename_i h
    have : l = -(-l) := by omega
    rw [this, Int.neg_tdiv, Int.tdiv_eq_ediv_of_nonneg (by omega)]
    omega

theorem wrap_tdiv2 (l : Int) (h : (Lit.int .i64 l).wf = true) : wrap64 (l.tdiv 2) = l.tdiv 2 := by
  rw [wf_iff] at h
  rw [tdiv2]
  unfold wrap64
  split <;> omega

theorem vars_any (n : Int) (A : Option Addr) (l c : Nat) (w : World) (h0 : 0 ≤ n) (h1 : n ≤ 2000) (h2 : l ≤ 8796093022208) :
    Calls Try.prog 75 #[.agg #[.int .i64 n, .slice A l c]] w (Ret w (.int .i64 (n + 1 + l))) := by
  go_enter Try.func75, Try.ntmps75
  go_wp2
  go_ret
  exact ⟨rfl, (Below.refl _ _).alloc (Nat.le_refl _) _⟩

theorem litB_eq (g : Gr) (l : Int) (b : Bool) : b = litB g l ↔ (b = true ↔ (0 ≤ g.n ∧ g.n ≤ 2000 ∧ 0 ≤ l ∧ l / 2 < g.n + 1 + g.as.length)) := by
  rw [Bool.eq_iff_iff]
  have : litB g l = true ↔ (0 ≤ g.n ∧ g.n ≤ 2000 ∧ 0 ≤ l ∧ l / 2 < g.n + 1 + g.as.length) := by unfold litB Gr.vars; exact decide_eq_true_iff
  rw [this]

theorem lit_any (g : Gr) (l : Int) (A : Option Addr) (c : Nat) (w : World) (h2 : g.as.length ≤ 8796093022208) (h3 : l ≤ 9223372036854775807) :
    Calls Try.prog 44 #[.agg #[.int .i64 g.n, .slice A g.as.length c], .int .i64 l] w (Ret w (.bool (litB g l))) := by
  go_enter Try.func44, Try.ntmps44
  go_wp2_with (go_at_call 75; refine (vars_any _ _ _ _ _ (by omega) (by omega) (by omega)).mono ?_; rintro e w1 ⟨rfl, hb⟩)
  all_goals go_ret
  all_goals refine Ret.mk (vbool ((litB_eq _ _ _).2 ?_)) ?_
  all_goals first
    | exact (Below.refl _ _).alloc (Nat.le_refl _) _
    | exact below2 ((Below.refl _ _).alloc (Nat.le_refl _) _) (by simp) hb
    | (simp; omega)

theorem mayB_eq (a b v : Int) (x : Bool) : x = mayB a b v ↔ (x = true ↔ (2 ≤ b ∧ b / 2 < a / 2 ∧ a / 2 < v)) := by
  rw [Bool.eq_iff_iff]
  have : mayB a b v = true ↔ (2 ≤ b ∧ b / 2 < a / 2 ∧ a / 2 < v) := by unfold mayB; exact decide_eq_true_iff
  rw [this]

theorem may_any (a b v : Int) (w : World) (ha : (Lit.int .i64 a).wf = true) (hb : (Lit.int .i64 b).wf = true) :
    Calls Try.prog 97 #[.agg #[.int .i64 a, .int .i64 b], .int .i64 v] w (Ret w (.bool (mayB a b v))) := by
  have ea := wrap_tdiv2 a ha
  have eb := wrap_tdiv2 b hb
  clear ha hb
  go_enter Try.func97, Try.ntmps97
  go_wp2
  all_goals go_ret
  all_goals refine Ret.mk (vbool ((mayB_eq _ _ _ _).2 ?_)) ?_
  all_goals first
    | exact (Below.refl _ _).alloc (Nat.le_refl _) _
    | (have h1 := tdiv2 a; have h2 := tdiv2 b; clear ea eb; simp only [decide_eq_true_eq, Bool.false_eq_true, false_iff]; split at h1 <;> split at h2 <;> omega)

/-- What 'right' leaves: the answer, and the index made where it is yes. -/
def RightIs (w w' : World) (b : Nat) (A : Option Addr) (c : Nat) (g : Gr) (e : Ending) : Prop :=
  e = .returned (.bool (rightB g)) ∧ w.grownBy w' (some b) ∧ (rightB g = true → Ready w' b A c g.as)

theorem below_grown {w w' : World} (h : Below w.heap.size w w') (row : Option Nat) : w.grownBy w' row := ⟨h.os, h.tape, h.output, h.size, fun i hi _ => h.block i hi⟩

set_option maxHeartbeats 400000 in
theorem right_in_size (g : Gr) (A : Option Addr) (c b : Nat) (w : World) (hs : sizeB g = false) (hl : g.as.length ≤ 8796093022208) :
    Calls Try.prog 72 #[.agg #[.int .i64 g.n, .slice A g.as.length c], .pointer (some ⟨b, 0, none⟩)] w fun e w' => RightIs w w' b A c g e := by
  have hr : Hid (rightB g = false) := by
    unfold Hid rightB
    rw [hs]
    rfl
  have hs' : ¬ (0 ≤ g.n ∧ g.n ≤ 2000 ∧ g.as.length ≤ 2000 ∧ g.n + 1 + g.as.length ≤ 2000) := by
    rw [← size_iff, hs]
    simp
  clear hs
  go_enter Try.func72, Try.ntmps72
  go_wp2_with (first
    | (go_at_call 75; refine (vars_any _ _ _ _ _ (by omega) (by omega) (by omega)).mono ?_; rintro e w1 ⟨rfl, hb⟩; obtain ⟨hc1, hc2⟩ := bcell hb))
  all_goals go_ret
  all_goals refine ⟨by rw [hr.out]; rfl, below_grown ?_ _, fun h => by rw [hr.out] at h; cases h⟩
  all_goals first
    | exact (Below.refl _ _).alloc (Nat.le_refl _) _
    | exact below2 ((Below.refl _ _).alloc (Nat.le_refl _) _) (by simp) hb

/-- At the head of round k: the gates before k may be. -/
def RightRel (w wr : World) (B : Nat) (g : Gr) (k : Nat) : Prop := Below B w wr ∧ ∀ (j : Nat) (p : Pr), j < k → g.as[j]? = some p → mayB p.1 p.2 (g.n + 1 + j) = true

set_option maxHeartbeats 400000 in
theorem right_in (g : Gr) (A : Option Addr) (c b : Nat) (w : World) (hs : sizeB g = true) (hx : Fresh w b A c g.as) (hp : Prs w b A g.as) (hok : ∀ p ∈ g.as, PrOk p) :
    Calls Try.prog 72 #[.agg #[.int .i64 g.n, .slice A g.as.length c], .pointer (some ⟨b, 0, none⟩)] w fun e w' => RightIs w w' b A c g e := by
  obtain ⟨h0, h1, h2, h3⟩ := (size_iff g).1 hs
  have hnot := @not_run Try.prog
  go_enter Try.func72, Try.ntmps72
  go_wp2_with (first
    | (go_at_call 75; refine (vars_any _ _ _ _ _ (by omega) (by omega) (by omega)).mono ?_; rintro e w1 ⟨rfl, hb⟩; obtain ⟨hc1, hc2⟩ := bcell hb))
  have hb1 : Below (w.heap.size + 1) (w.alloc (.cells #[.int .i64 g.n, .slice A g.as.length c] 24)) w1 := hb.mono (by simp)
  clear hb hc1 hc2
  go_loopw [29] (fun i wr => ∃ k : Nat, k ≤ g.as.length ∧ i = .int .i64 k ∧ RightRel (w.alloc (.cells #[.int .i64 g.n, .slice A g.as.length c] 24)) wr (w.heap.size + 1) g k) (fun i _ => g.as.length - (intOf i).toNat)
  case atStart => exact ⟨0, Nat.zero_le _, rfl, hb1, fun j p hj => by omega⟩
  case round =>
    obtain ⟨k, hk, rfl, hbr, hall⟩ := hrel
    have hbel : Below w.heap.size w wr := ((Below.refl _ _).alloc (Nat.le_refl _) _).trans (hbr.mono (by omega))
    by_cases hlt : k < g.as.length
    · obtain ⟨⟨a1, a2⟩, hpk⟩ : ∃ p, g.as[k]? = some p := ⟨_, List.getElem?_eq_getElem hlt⟩
      obtain ⟨ok1, ok2⟩ := hok _ (List.mem_of_getElem? hpk)
      obtain ⟨b', o', rfl, hlb, g1, g2⟩ := (hp.below (hbel.mono (Nat.le_of_lt (Blk.lt hx)))) k _ hpk
      have hsz : w.heap.size + 1 ≤ wr.heap.size := by have := hbr.size; simpa using this
      have c0 : ∀ O, (wr.alloc O).cell? ⟨w.heap.size, 0, none⟩ = some (.int .i64 g.n) := fun O => ((bcell (hbr.alloc hsz O)).1 _ _ (by omega)).trans (by simp)
      have hkeep : k < g.as.length → True := fun _ => trivial
      by_cases hm : mayB a1 a2 (g.n + 1 + k) = true
      · have HF : Hid (∀ (j : Nat) (p : Pr), j < k + 1 → g.as[j]? = some p → mayB p.1 p.2 (g.n + 1 + j) = true) := fun j p hj hpj => by
          rcases Nat.lt_or_ge j k with h | h
          · exact hall j p h hpj
          · obtain rfl : j = k := by omega
            rw [hpk] at hpj
            cases hpj
            exact hm
        have HB := Lib.hid hbr
        clear hall hbr hp hx hok hbel hpk hkeep
        go_wp2_with (go_at_call 97; refine (may_any _ _ _ _ ok1 ok2).mono ?_; rw [hm]; rintro e w2 ⟨rfl, hb2⟩)
        all_goals go_roundw
        case rel => exact ⟨k + 1, by omega, by go_num, below2 ((HB.out).alloc hsz _) (by simp; omega) hb2, HF.out⟩
        case measure => simp [intOf]; omega
      · have hm' : mayB a1 a2 (g.n + 1 + k) = false := by simpa using hm
        have HF : Hid (rightB g = false) := by
          cases e : rightB g
          · rfl
          · have := ((right_iff g).1 e).2.1 k _ hpk
            exact absurd this hm
        have HB := Lib.hid hbel
        clear hall hbr hp hx hok hbel hpk hm
        go_wp2_with (go_at_call 97; refine (may_any _ _ _ _ ok1 ok2).mono ?_; rw [hm']; rintro e w2 ⟨rfl, hb2⟩)
        all_goals go_ret
        exact ⟨by rw [HF.out]; rfl, below_grown (below2 ((HB.out).alloc (by omega) _) (by simp; omega) hb2) _, fun h => by rw [HF.out] at h; cases h⟩
    · have hke : k = g.as.length := by omega
      subst hke
      have hxr : Fresh wr.drew b A c g.as := Blk.below hx hbel.drew (Blk.lt hx)
      have hpr : Prs wr.drew b A g.as := hp.below (hbel.drew.mono (Nat.le_of_lt (Blk.lt hx)))
      have c1 : wr.cell? ⟨w.heap.size, 1, none⟩ = some (.slice A g.as.length c) := ((bcell hbr).1 _ _ (by omega)).trans (by simp)
      have hne : some w.heap.size ≠ some b := by have := Blk.lt hx; simp; omega
      have hsz : w.heap.size < wr.drew.heap.size := by have := hbr.size; simp at this; exact this
      have HC := Lib.hid (many_fresh b A c g.as wr.drew hxr hpr hok h2)
      have HX := Lib.hid hbel
      have HA := Lib.hid hall
      have hle : g.as.length ≤ 2000 := h2
      clear hall hbr hp hx hok hbel hxr hpr hs
      go_wp2_with fail
      go_region_with (go_at_call 98; refine HC.out.mono ?_; rintro e w2 ⟨m, rfl, hm1, hm2, hg2, hr2⟩; have c2 : w2.cell? ⟨w.heap.size, 1, none⟩ = some (.slice A g.as.length c) := (World.cell?_of_block (hg2.block w.heap.size hsz hne)).trans c1; have HM := Lib.hid hm2; have HR := Lib.hid hr2; clear hm2 hr2)
      all_goals go_wp2_with fail
      all_goals go_ret
      all_goals
        have hv : ((m : Int) == (g.as.length : Int)) = rightB g := by
          rw [Bool.eq_iff_iff, right_iff]
          simp only [beq_iff_eq, Int.natCast_inj, HM.out]
          exact ⟨fun h => ⟨⟨h0, h1, h2, h3⟩, fun j p hj => HA.out j p (List.getElem?_eq_some_iff.1 hj).1 hj, h⟩, fun h => h.2.2⟩
        refine ⟨?_, grown_trans (below_grown HX.out.drew _) hg2, fun _ => HR.out⟩
        rw [← hv]
        simp [Act.put]
end Go.Proofs.Ytbdhkagcbncefaa
