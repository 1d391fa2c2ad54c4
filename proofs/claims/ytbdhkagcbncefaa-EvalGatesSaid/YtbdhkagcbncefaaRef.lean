/- The document's answer for layer 1: Vars, Lit, Right, Same. -/
import Derived.Test.YtbdhkagcbncefaaIte
namespace Go.Proofs.Ytbdhkagcbncefaa
open Go.RowKit Go.Maps

theorem rvars_any (n : Int) (A : Option Addr) (l c : Nat) (w : World) (h0 : 0 ≤ n) (h1 : n ≤ 4000) (h2 : l ≤ 8796093022208) :
    Calls Try.prog 37 #[.agg #[.int .i64 n, .slice A l c]] w (Ret w (.int .i64 (n + 1 + l))) := by
  go_enter Try.func37, Try.ntmps37
  go_wp2
  go_ret
  exact ⟨rfl, (Below.refl _ _).alloc (Nat.le_refl _) _⟩

theorem rlit_any (g : Gr) (l : Int) (A : Option Addr) (c : Nat) (w : World) (h2 : g.as.length ≤ 8796093022208) (h3 : l ≤ 9223372036854775807) :
    Calls Try.prog 64 #[.agg #[.int .i64 g.n, .slice A g.as.length c], .int .i64 l] w (Ret w (.bool (litB g l))) := by
  go_enter Try.func64, Try.ntmps64
  go_wp2_with (go_at_call 37; refine (rvars_any _ _ _ _ _ (by omega) (by omega) (by omega)).mono ?_; rintro e w1 ⟨rfl, hb⟩)
  all_goals go_ret
  all_goals refine Ret.mk (vbool ((litB_eq _ _ _).2 ?_)) ?_
  all_goals first
    | exact (Below.refl _ _).alloc (Nat.le_refl _) _
    | exact below2 ((Below.refl _ _).alloc (Nat.le_refl _) _) (by simp) hb
    | (simp; omega)

set_option maxHeartbeats 400000 in
theorem rright_size (g : Gr) (A : Option Addr) (c : Nat) (w : World) (hs : sizeB g = false) (hl : g.as.length ≤ 8796093022208) :
    Calls Try.prog 60 #[.agg #[.int .i64 g.n, .slice A g.as.length c]] w (Ret w (.bool (rightB g))) := by
  have hr : Hid (rightB g = false) := by
    unfold Hid rightB
    rw [hs]
    rfl
  have hs' : ¬ (0 ≤ g.n ∧ g.n ≤ 2000 ∧ g.as.length ≤ 2000 ∧ g.n + 1 + g.as.length ≤ 2000) := by
    rw [← size_iff, hs]
    simp
  clear hs
  go_enter Try.func60, Try.ntmps60
  go_wp2_with (first
    | (go_at_call 37; refine (rvars_any _ _ _ _ _ (by omega) (by omega) (by omega)).mono ?_; rintro e w1 ⟨rfl, hb⟩; obtain ⟨hc1, hc2⟩ := bcell hb))
  all_goals go_ret
  all_goals refine ⟨by rw [hr.out]; rfl, ?_⟩
  all_goals first
    | exact (Below.refl _ _).alloc (Nat.le_refl _) _
    | exact below2 ((Below.refl _ _).alloc (Nat.le_refl _) _) (by simp) hb

/-- At the head of round i: the gates before i may be, and are unlike. -/
def RefRel (w wr : World) (B : Nat) (g : Gr) (i : Nat) : Prop :=
  Below B w wr ∧ (∀ (j : Nat) (p : Pr), j < i → g.as[j]? = some p → mayB p.1 p.2 (g.n + 1 + j) = true) ∧ (g.as.take i).Nodup

set_option maxHeartbeats 1000000 in
theorem rright_in (g : Gr) (A : Option Addr) (c : Nat) (w : World) (hs : sizeB g = true) (hp : Prs w w.heap.size A g.as) (hok : ∀ p ∈ g.as, PrOk p) :
    Calls Try.prog 60 #[.agg #[.int .i64 g.n, .slice A g.as.length c]] w (Ret w (.bool (rightB g))) := by
  obtain ⟨h0, h1, h2, h3⟩ := (size_iff g).1 hs
  have hnot := @not_run Try.prog
  go_enter Try.func60, Try.ntmps60
  go_wp2_with (first
    | (go_at_call 37; refine (rvars_any _ _ _ _ _ (by omega) (by omega) (by omega)).mono ?_; rintro e w1 ⟨rfl, hb⟩; obtain ⟨hc1, hc2⟩ := bcell hb))
  have hb1 : Below (w.heap.size + 1) (w.alloc (.cells #[.int .i64 g.n, .slice A g.as.length c] 24)) w1 := hb.mono (by simp)
  clear hb hc1 hc2
  go_loopw [3] (fun s wr => ∃ i : Nat, i ≤ g.as.length ∧ s = .int .i64 i ∧ RefRel (w.alloc (.cells #[.int .i64 g.n, .slice A g.as.length c] 24)) wr (w.heap.size + 1) g i) (fun s _ => g.as.length - (intOf s).toNat)
  case atStart => exact ⟨0, Nat.zero_le _, rfl, hb1, fun j p hj => by omega, by simp⟩
  case round =>
    obtain ⟨i, hi, rfl, hbr, hall, hnd⟩ := hrel
    have hbel : Below w.heap.size w wr := ((Below.refl _ _).alloc (Nat.le_refl _) _).trans (hbr.mono (by omega))
    have c0 : wr.cell? ⟨w.heap.size, 0, none⟩ = some (.int .i64 g.n) := ((bcell hbr).1 _ _ (by omega)).trans (by simp)
    have c1 : wr.cell? ⟨w.heap.size, 1, none⟩ = some (.slice A g.as.length c) := ((bcell hbr).1 _ _ (by omega)).trans (by simp)
    by_cases hlt : i < g.as.length
    · obtain ⟨⟨a1, a2⟩, hpk⟩ : ∃ p, g.as[i]? = some p := ⟨_, List.getElem?_eq_getElem hlt⟩
      obtain ⟨ok1, ok2⟩ := hok _ (List.mem_of_getElem? hpk)
      have ea := wrap_tdiv2 a1 ok1
      have eb := wrap_tdiv2 a2 ok2
      obtain ⟨b', o', rfl, hlb, g1, g2⟩ := (hp.below hbel) i _ hpk
      have t1 := tdiv2 a1
      have t2 := tdiv2 a2
      cases hm : mayB a1 a2 (g.n + 1 + i)
      · have hm' : ¬ (2 ≤ a2 ∧ a2.tdiv 2 < a1.tdiv 2 ∧ a1.tdiv 2 < g.n + 1 + i) := by
          intro h
          have := ((mayB_eq a1 a2 (g.n + 1 + i) _).1 hm.symm).2 (by split at t1 <;> split at t2 <;> omega)
          cases this
        have HF : Hid (rightB g = false) := by
          cases e : rightB g
          · rfl
          · have := ((right_iff g).1 e).2.1 i _ hpk
            rw [hm] at this
            cases this
        have HB := Lib.hid hbel
        clear hall hbr hp hok hbel hpk hm hnd t1 t2 ok1 ok2
        go_wp2_with fail
        go_quiet (fail)
        all_goals go_wp2_with fail
        all_goals go_ret
        all_goals exact ⟨by rw [HF.out]; rfl, below_drewN HB.out _⟩
      · have hm' : 2 ≤ a2 ∧ a2.tdiv 2 < a1.tdiv 2 ∧ a1.tdiv 2 < g.n + 1 + i := by
          have := ((mayB_eq a1 a2 (g.n + 1 + i) _).1 hm.symm).1 rfl
          split at t1 <;> split at t2 <;> omega
        obtain ⟨m1, m2, m3⟩ := hm'
        clear t1 t2 ok1 ok2
        have HB := Lib.hid hbr
        have HBL := Lib.hid hbel
        have HP := Lib.hid hp
        have HOK := Lib.hid hok
        have HND := Lib.hid hnd
        have HA : Hid (∀ (j : Nat) (p : Pr), j < i + 1 → g.as[j]? = some p → mayB p.1 p.2 (g.n + 1 + j) = true) := fun j p hj hpj => by
          rcases Nat.lt_or_ge j i with h | h
          · exact hall j p h hpj
          · obtain rfl : j = i := by omega
            rw [hpk] at hpj
            cases hpj
            exact hm
        have HK := Lib.hid hpk
        clear hall hbr hp hok hbel hpk hm hnd
        go_wp2_with fail
        go_quiet (fail)
        go_wp2_with fail
        obtain ⟨wo, rfl⟩ : ∃ wo : World, wo = wr := ⟨_, rfl⟩
        go_loopw [6] (fun s wi => ∃ k : Nat, k ≤ i ∧ s = .int .i64 k ∧ Below (w.heap.size + 1) (w.alloc (.cells #[.int .i64 g.n, .slice (some ⟨b', o', none⟩) g.as.length c] 24)) wi ∧ Hid (∀ j : Nat, j < k → g.as[j]? ≠ some (a1, a2))) (fun s _ => i - (intOf s).toNat)
        case atStart => exact ⟨0, Nat.zero_le _, rfl, below_drewN HB.out _, fun j hj => by omega⟩
        case round =>
          obtain ⟨k, hk, rfl, hbi, hne⟩ := hrel
          have hbel : Below w.heap.size w wr := ((Below.refl _ _).alloc (Nat.le_refl _) _).trans (hbi.mono (by omega))
          have c1' : wr.cell? ⟨w.heap.size, 1, none⟩ = some (.slice (some ⟨b', o', none⟩) g.as.length c) := ((bcell hbi).1 _ _ (by omega)).trans (by simp)
          obtain ⟨b3, o3, e3, _, j1, j2⟩ := (HP.out.below hbel) i _ HK.out
          injection e3 with e3
          injection e3 with e3 e4
          subst e3 e4
          clear c0 c1 g1 g2
          by_cases hki : k < i
          · obtain ⟨⟨p1, p2⟩, hpj⟩ : ∃ p, g.as[k]? = some p := ⟨_, List.getElem?_eq_getElem (Nat.lt_trans hki hlt)⟩
            obtain ⟨b3, o3, e3, _, q1, q2⟩ := (HP.out.below hbel) k _ hpj
            injection e3 with e3
            injection e3 with e3 e4
            subst e3 e4
            have hki' : (k : Int) < (g.as.length : Int) := by omega
            have hii' : (i : Int) < (g.as.length : Int) := by omega
            have hqe := @eql_pair
            have HBI := Lib.hid hbi
            have HPJ := Lib.hid hpj
            clear hbi hpj hbel
            by_cases he : p1 = a1 ∧ p2 = a2
            · obtain ⟨rfl, rfl⟩ := he
              go_wp2_with fail
              go_quiet (fail)
              all_goals go_wp2_with fail
              all_goals go_ret
              have HF : rightB g = false := by
                cases e : rightB g
                · rfl
                · have hn := ((right_iff g).1 e).2.2
                  have := (List.getElem?_inj (Nat.lt_trans hki hlt) hn).1 (HPJ.out.trans HK.out.symm)
                  omega
              exact ⟨by rw [HF]; rfl, below_drewN (((Below.refl _ _).alloc (Nat.le_refl _) _).trans (HBI.out.mono (by omega))) _⟩
            · have he' : (p1 == a1 && p2 == a2) = false := by simpa using he
              have HNE : Hid (∀ j : Nat, j < k + 1 → g.as[j]? ≠ some (a1, a2)) := fun j hj => by
                rcases Nat.lt_or_ge j k with h | h
                · exact hne.out j h
                · obtain rfl : j = k := by omega
                  rw [HPJ.out]
                  intro e'
                  simp at e'
                  exact he e'
              clear he
              go_wp2_with fail
              go_quiet (fail)
              all_goals go_wp2_with fail
              all_goals go_roundw
              case rel => exact ⟨k + 1, by omega, by go_num, below_drewN HBI.out _, HNE.out⟩
              case measure => simp [intOf]; omega
          · have hke : k = i := by omega
            subst hke
            have HB2 := Lib.hid hbi
            have HND2 : Hid ((g.as.take (k + 1)).Nodup) := by
              show (g.as.take (k + 1)).Nodup
              rw [List.take_add_one, HK.out]
              refine List.nodup_append.2 ⟨HND.out, by simp, fun x hx y hy => ?_⟩
              simp at hy
              subst hy
              rintro rfl
              obtain ⟨j, hj, e⟩ := List.getElem_of_mem hx
              rw [List.length_take] at hj
              refine hne.out j (by omega) ?_
              rw [List.getElem_take] at e
              rw [List.getElem?_eq_getElem (by omega), e]
            clear hbi hne hbel
            go_wp2_with fail
            go_roundw
            case rel => exact ⟨k + 1, by omega, by go_num, HB2.out, HA.out, HND2.out⟩
            case measure => simp [intOf]; omega
    · have hie : i = g.as.length := by omega
      subst hie
      have HF : Hid (rightB g = true) := (right_iff g).2 ⟨⟨h0, h1, h2, h3⟩, fun j p hj => hall j p (List.getElem?_eq_some_iff.1 hj).1 hj, by rw [List.take_length] at hnd; exact hnd⟩
      have HB := Lib.hid hbel
      clear hall hbr hp hok hbel hnd hs
      go_wp2_with fail
      go_ret
      exact ⟨by rw [HF.out]; rfl, HB.out⟩

theorem rright_any (g : Gr) (A : Option Addr) (c : Nat) (w : World) (hg : GOk g) (hp : Prs w w.heap.size A g.as) :
    Calls Try.prog 60 #[.agg #[.int .i64 g.n, .slice A g.as.length c]] w (Ret w (.bool (rightB g))) := by
  obtain ⟨h1, h2, h3⟩ := hg
  cases hs : sizeB g
  · exact rright_size g A c w hs h2
  · exact rright_in g A c w hs hp h3
end Go.Proofs.Ytbdhkagcbncefaa
