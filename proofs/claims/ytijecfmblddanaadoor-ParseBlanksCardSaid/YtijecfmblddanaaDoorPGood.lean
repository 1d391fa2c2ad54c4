/- Parsing: plain laws: what is parsed prints no longer than its tokens allow; no error is nought. -/
import Derived.Test.YtijecfmblddanaaDoorG2
import Derived.Test.YtijecfmblddanaaDoorPBackLaw
import Derived.Test.YtijecfmblddanaaDoorPTok3
set_option linter.unusedVariables false
set_option linter.unusedSimpArgs false
namespace Go.Proofs.YtijecfmblddanaaDoor

def wt : List KT → Nat
  | [] => 0
  | x :: t => 16 + x.2.length + wt t
def GoodP (t : List KT) : PR → Prop
  | .ok f t' => t'.length < t.length ∧ f.txt.length + 4 + wt t' ≤ wt t
  | .bad e _ => e ≠ 0
theorem takes_wt {s : List UInt8} {t : List KT} (h : takes s t = true) : t.tail.length + 1 = t.length ∧ wt t.tail + 16 ≤ wt t := by
  cases t with
  | nil => simp [takes] at h
  | cons x t => exact ⟨by simp, by simp [wt]; omega⟩
theorem gpart_len (f : Fm) : f.part.length ≤ f.txt.length + 2 := by
  unfold Fm.part parT
  split <;> simp
theorem bin_len {k : Int} (hk : 5 ≤ k ∧ k ≤ 8) (f g : Fm) : (Fm.mk k [] 0 [f, g]).txt.length ≤ f.txt.length + g.txt.length + 9 := by
  have := gpart_len f
  have := gpart_len g
  obtain rfl | rfl | rfl | rfl : k = 5 ∨ k = 6 ∨ k = 7 ∨ k = 8 := by omega
  all_goals (rw [Fm.txt_eq]; simp [Fm.kind, Fm.kids, shp, joinB]; omega)
theorem una_len {k : Int} (hk : k = 4 ∨ (9 ≤ k ∧ k ≤ 14)) (f : Fm) : (Fm.mk k [] 0 [f]).txt.length ≤ f.txt.length + 5 := by
  have := gpart_len f
  obtain rfl | rfl | rfl | rfl | rfl | rfl | rfl : k = 4 ∨ k = 9 ∨ k = 10 ∨ k = 11 ∨ k = 12 ∨ k = 13 ∨ k = 14 := by omega
  all_goals (rw [Fm.txt_eq]; simp [Fm.kind, Fm.kids, shp, joinB]; omega)
theorem unt_len {k : Int} (hk : 15 ≤ k ∧ k ≤ 18) (f g : Fm) : (Fm.mk k [] 0 [f, g]).txt.length ≤ f.txt.length + g.txt.length + 11 := by
  have := gpart_len f
  have := gpart_len g
  obtain rfl | rfl | rfl | rfl : k = 15 ∨ k = 16 ∨ k = 17 ∨ k = 18 := by omega
  all_goals (rw [Fm.txt_eq]; simp [Fm.kind, Fm.kids, shp, joinB]; omega)
theorem unaryK_cases (s : List UInt8) (h : unaryK s ≠ 0) : unaryK s = 4 ∨ (9 ≤ unaryK s ∧ unaryK s ≤ 14) := by
  revert h
  unfold unaryK
  repeat' split
  all_goals simp
theorem good_bind {T t : List KT} {r : PR} {k : Fm → List KT → PR} (h : GoodP t r) (hk : ∀ f t', t'.length < t.length → f.txt.length + 4 + wt t' ≤ wt t → GoodP T (k f t')) : GoodP T (r.bind k) := by
  cases r with
  | ok f t' => exact hk f t' h.1 h.2
  | bad e m => exact h
theorem good_need {T t : List KT} {s : List UInt8} {k : List KT → PR} (hk : t.tail.length + 1 = t.length → wt t.tail + 16 ≤ wt t → GoodP T (k t.tail)) : GoodP T (needP s t k) := by
  unfold needP
  split
  · next h => exact hk (takes_wt h).1 (takes_wt h).2
  · exact (by decide : (41 : Int) ≠ 0)
theorem good_chainL {g : List KT → PR} {s : List UInt8} {kd : Int} (hk : 5 ≤ kd ∧ kd ≤ 8) (m : Nat) (hg : ∀ t : List KT, t.length ≤ m → GoodP t (g t)) :
    ∀ (n : Nat) (f : Fm) (t T : List KT), t.length ≤ m → t.length < T.length → f.txt.length + 4 + wt t ≤ wt T → GoodP T (chainL g s kd n f t)
  | 0, f, t, T, _, h1, h2 => ⟨h1, h2⟩
  | n + 1, f, t, T, h0, h1, h2 => by
    rw [chainL]
    split
    · next h =>
      obtain ⟨e1, e2⟩ := takes_wt h
      refine good_bind (hg t.tail (by omega)) fun f2 t2 h3 h4 => ?_
      have := bin_len hk f f2
      exact good_chainL hk m hg n _ t2 T (by omega) (by omega) (by omega)
    · exact ⟨h1, h2⟩
theorem good_chainP {g : List KT → PR} {s : List UInt8} {kd : Int} (hk : 5 ≤ kd ∧ kd ≤ 8) (t : List KT) (hg : ∀ t' : List KT, t'.length ≤ t.length → GoodP t' (g t')) : GoodP t (chainP g s kd t) :=
  good_bind (hg t (Nat.le_refl _)) fun f t' h1 h2 => good_chainL hk t.length hg _ f t' t (by omega) h1 h2
theorem good_until {g : List KT → PR} {u r : Int} (hu : 15 ≤ u ∧ u ≤ 18) (hr : 15 ≤ r ∧ r ≤ 18) (t T : List KT) (hT : t.length < T.length) (hW : wt t + 16 ≤ wt T) (hg : ∀ t' : List KT, t'.length ≤ t.length → GoodP t' (g t')) : GoodP T (untilP g u r t) := by
  unfold untilP
  refine good_need fun e1 e2 => good_bind (hg _ (by omega)) fun a t2 h1 h2 => ?_
  split
  · next h =>
    obtain ⟨e3, e4⟩ := takes_wt h
    refine good_bind (hg _ (by omega)) fun b t4 h3 h4 => good_need fun e5 e6 => ⟨by omega, ?_⟩
    have := unt_len hr a b
    omega
  · refine good_need fun e3 e4 => good_bind (hg _ (by omega)) fun b t4 h3 h4 => good_need fun e5 e6 => ⟨by omega, ?_⟩
    have := unt_len hu a b
    omega
theorem unq_len (s : List UInt8) : (unq s).length ≤ s.length := by
  unfold unq
  split
  · rw [List.length_drop, List.length_take]
    omega
  · omega
theorem good_atom (t : List KT) : GoodP t (atomP t) := by
  unfold atomP
  split
  · next h =>
    cases t with
    | nil => simp [hdT] at h
    | cons x t =>
      refine ⟨by simp, ?_⟩
      have h1 := atomT_len (unq x.2)
      have h2 := unq_len x.2
      have h3 : (Fm.mk 3 (unq x.2) 0 []).txt = atomT (unq x.2) := by rw [Fm.txt_eq]; rfl
      simp only [hdT, List.headD_cons, List.tail_cons, wt, h3]
      omega
  · exact (by decide : (41 : Int) ≠ 0)
theorem good_all : ∀ (n : Nat) (d : Int), (∀ t : List KT, 3 * t.length + 1 ≤ n → GoodP t (partP n d t)) ∧ (∀ t : List KT, 3 * t.length + 2 ≤ n → GoodP t (implyP n d t)) ∧ (∀ t : List KT, 3 * t.length + 3 ≤ n → GoodP t (wholeP n d t))
  | 0, d => ⟨fun t h => by omega, fun t h => by omega, fun t h => by omega⟩
  | n + 1, d => by
    refine ⟨fun t h => ?_, fun t h => ?_, fun t h => ?_⟩
    · rw [partP]
      split
      · exact (by decide : (2 : Int) ≠ 0)
      split
      · next hu =>
        cases t with
        | nil => exact absurd rfl hu
        | cons x t =>
          simp only [List.length_cons] at h
          refine good_bind ((good_all n (d + 1)).1 t (by omega)) fun f t' h1 h2 => ⟨by simp; omega, ?_⟩
          have := una_len (unaryK_cases _ hu) f
          simp only [wt]
          omega
      split
      · next hp =>
        obtain ⟨e1, e2⟩ := takes_wt hp
        exact good_bind ((good_all n (d + 1)).2.2 t.tail (by omega)) fun f t' h1 h2 => good_need fun e3 e4 => ⟨by omega, by omega⟩
      split
      · next hp =>
        obtain ⟨e1, e2⟩ := takes_wt hp
        exact good_until (by decide) (by decide) t.tail t (by omega) (by omega) fun t' ht => (good_all n (d + 1)).2.2 t' (by omega)
      split
      · next hp =>
        obtain ⟨e1, e2⟩ := takes_wt hp
        exact good_until (by decide) (by decide) t.tail t (by omega) (by omega) fun t' ht => (good_all n (d + 1)).2.2 t' (by omega)
      split
      · next hp =>
        obtain ⟨e1, e2⟩ := takes_wt hp
        refine ⟨by omega, ?_⟩
        have : (Fm.mk 2 [] 0 []).txt.length = 4 := by decide
        omega
      split
      · next hp =>
        obtain ⟨e1, e2⟩ := takes_wt hp
        refine ⟨by omega, ?_⟩
        have : (Fm.mk 1 [] 0 []).txt.length = 5 := by decide
        omega
      · exact good_atom t
    · rw [implyP]
      refine good_bind (good_chainP (by decide) t fun t' ht => good_chainP (by decide) t' fun t'' ht' => (good_all n d).1 t'' (by omega)) fun f t' h1 h2 => ?_
      split
      · next hp =>
        obtain ⟨e1, e2⟩ := takes_wt hp
        refine good_bind ((good_all n (d + 1)).2.1 t'.tail (by omega)) fun g t'' h3 h4 => ⟨by omega, ?_⟩
        have := bin_len (k := 7) (by decide) f g
        omega
      · exact ⟨h1, h2⟩
    · rw [wholeP]
      split
      · exact (by decide : (2 : Int) ≠ 0)
      · exact good_chainP (by decide) t fun t' ht => (good_all n d).2.1 t' (by omega)
/-- What is parsed with no error is right, and its text is no longer than its tokens allow. -/
theorem parseT_good (t : List KT) (f : Fm) (m : Nat) (h : parseT t = (f, 0, m)) : f.ok = true ∧ f.txt.length ≤ wt t := by
  unfold parseT at h
  have hg := (good_all (3 * t.length + 3) 0).2.2 t (Nat.le_refl _)
  generalize wholeP (3 * t.length + 3) 0 t = r at h hg
  cases r with
  | bad e m' =>
    rw [finT_bad] at h
    exact absurd (congrArg (fun x : Fm × Int × Nat => x.2.1) h) (show ¬ e = 0 from hg)
  | ok g t' =>
    rw [finT_ok] at h
    split at h
    · exact absurd (congrArg (fun x : Fm × Int × Nat => x.2.1) h) (show ¬ (41 : Int) = 0 by decide)
    · split at h
      · next hok =>
        obtain rfl : g = f := congrArg (fun x : Fm × Int × Nat => x.1) h
        exact ⟨hok, by have := hg.2; omega⟩
      · exact absurd (congrArg (fun x : Fm × Int × Nat => x.2.1) h) (show ¬ (2 : Int) = 0 by decide)
end Go.Proofs.YtijecfmblddanaaDoor
