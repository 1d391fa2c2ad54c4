/- The document's answer for layer 1: Vars, Lit, Right, Same. The document's answer for layer 1: And. The document's answer for layer 1: And at all literals, Or, Ite. The document's Same, of two graphs that are the same. Layer 1's 'same': all that is made of literals is the document's. Layer 1's 'awake'. Graphs by numbers, as plain data: what is right stays right. What is made of literals again is what it was: plain data. A graph by numbers: the walk of Made. A box that holds a graph, from world to world. -/
import Derived.Test.YtbdhkagcbncefaaG1
import Derived.Deep.RegionHeld3
namespace Go.Proofs.Ytbdhkagcbncefaa
open Go.RowKit Go.Maps

theorem rvars_any (n : Int) (A : Option Addr) (l c : Nat) (w : World) (h0 : 0 ≤ n) (h1 : n ≤ 4000) (h2 : l ≤ 8796093022208) :
    Calls Try.prog 37 #[.agg #[.int .i64 n, .slice A l c]] w (Ret w (.int .i64 (n + 1 + l))) := by
  go_enter Try.func37, Try.ntmps37
  go_wp2
  go_ret
  exact ⟨rfl, (Below.refl _ _).alloc (Nat.le_refl _) _⟩

theorem rlit_any (g : Gr) (l : Int) (A : Option Addr) (c : Nat) (w : World) (h2 : g.as.length ≤ 8796093022208) (h3 : l ≤ 9223372036854775807) :
    Calls Try.prog 64 #[.agg #[.int .i64 g.n, .slice A g.as.length c], .int .i64 l] w (Ret w (.bool (litB g l))) := by
  go_enter Try.func64, Try.ntmps64
  go_wp2_with (go_at_call 37; refine (rvars_any _ _ _ _ _ (by omega) (by omega) (by omega)).mono ?_; rintro e w1 ⟨rfl, hb⟩)
  all_goals go_ret
  all_goals refine Ret.mk (vbool ((litB_eq _ _ _).2 ?_)) ?_
  all_goals first
    | exact (Below.refl _ _).alloc (Nat.le_refl _) _
    | exact below2 ((Below.refl _ _).alloc (Nat.le_refl _) _) (by simp) hb
    | (simp; omega)

set_option maxHeartbeats 400000 in
theorem rright_size (g : Gr) (A : Option Addr) (c : Nat) (w : World) (hs : sizeB g = false) (hl : g.as.length ≤ 8796093022208) :
    Calls Try.prog 60 #[.agg #[.int .i64 g.n, .slice A g.as.length c]] w (Ret w (.bool (rightB g))) := by
  have hr : Hid (rightB g = false) := by
    unfold Hid rightB
    rw [hs]
    rfl
  have hs' : ¬ (0 ≤ g.n ∧ g.n ≤ 2000 ∧ g.as.length ≤ 2000 ∧ g.n + 1 + g.as.length ≤ 2000) := by
    rw [← size_iff, hs]
    simp
  clear hs
  go_enter Try.func60, Try.ntmps60
  go_wp2_with (first
    | (go_at_call 37; refine (rvars_any _ _ _ _ _ (by omega) (by omega) (by omega)).mono ?_; rintro e w1 ⟨rfl, hb⟩; obtain ⟨hc1, hc2⟩ := bcell hb))
  all_goals go_ret
  all_goals refine ⟨by rw [hr.out]; rfl, ?_⟩
  all_goals first
    | exact (Below.refl _ _).alloc (Nat.le_refl _) _
    | exact below2 ((Below.refl _ _).alloc (Nat.le_refl _) _) (by simp) hb

/-- At the head of round i: the gates before i may be, and are unlike. -/
def RefRel (w wr : World) (B : Nat) (g : Gr) (i : Nat) : Prop :=
  Below B w wr ∧ (∀ (j : Nat) (p : Pr), j < i → g.as[j]? = some p → mayB p.1 p.2 (g.n + 1 + j) = true) ∧ (g.as.take i).Nodup

set_option maxHeartbeats 1000000 in
theorem rright_in (g : Gr) (A : Option Addr) (c : Nat) (w : World) (hs : sizeB g = true) (hp : Prs w w.heap.size A g.as) (hok : ∀ p ∈ g.as, PrOk p) :
    Calls Try.prog 60 #[.agg #[.int .i64 g.n, .slice A g.as.length c]] w (Ret w (.bool (rightB g))) := by
  obtain ⟨h0, h1, h2, h3⟩ := (size_iff g).1 hs
  have hnot := @not_run Try.prog
  go_enter Try.func60, Try.ntmps60
  go_wp2_with (first
    | (go_at_call 37; refine (rvars_any _ _ _ _ _ (by omega) (by omega) (by omega)).mono ?_; rintro e w1 ⟨rfl, hb⟩; obtain ⟨hc1, hc2⟩ := bcell hb))
  have hb1 : Below (w.heap.size + 1) (w.alloc (.cells #[.int .i64 g.n, .slice A g.as.length c] 24)) w1 := hb.mono (by simp)
  clear hb hc1 hc2
  go_loopw [3] (fun s wr => ∃ i : Nat, i ≤ g.as.length ∧ s = .int .i64 i ∧ RefRel (w.alloc (.cells #[.int .i64 g.n, .slice A g.as.length c] 24)) wr (w.heap.size + 1) g i) (fun s _ => g.as.length - (intOf s).toNat)
  case atStart => exact ⟨0, Nat.zero_le _, rfl, hb1, fun j p hj => by omega, by simp⟩
  case round =>
    obtain ⟨i, hi, rfl, hbr, hall, hnd⟩ := hrel
    have hbel : Below w.heap.size w wr := ((Below.refl _ _).alloc (Nat.le_refl _) _).trans (hbr.mono (by omega))
    have c0 : wr.cell? ⟨w.heap.size, 0, none⟩ = some (.int .i64 g.n) := ((bcell hbr).1 _ _ (by omega)).trans (by simp)
    have c1 : wr.cell? ⟨w.heap.size, 1, none⟩ = some (.slice A g.as.length c) := ((bcell hbr).1 _ _ (by omega)).trans (by simp)
    by_cases hlt : i < g.as.length
    · obtain ⟨⟨a1, a2⟩, hpk⟩ : ∃ p, g.as[i]? = some p := ⟨_, List.getElem?_eq_getElem hlt⟩
      obtain ⟨ok1, ok2⟩ := hok _ (List.mem_of_getElem? hpk)
      have ea := wrap_tdiv2 a1 ok1
      have eb := wrap_tdiv2 a2 ok2
      obtain ⟨b', o', rfl, hlb, g1, g2⟩ := (hp.below hbel) i _ hpk
      have t1 := tdiv2 a1
      have t2 := tdiv2 a2
      cases hm : mayB a1 a2 (g.n + 1 + i)
      · have hm' : ¬ (2 ≤ a2 ∧ a2.tdiv 2 < a1.tdiv 2 ∧ a1.tdiv 2 < g.n + 1 + i) := by
          intro h
          have := ((mayB_eq a1 a2 (g.n + 1 + i) _).1 hm.symm).2 (by split at t1 <;> split at t2 <;> omega)
          cases this
        have HF : Hid (rightB g = false) := by
          cases e : rightB g
          · rfl
          · have := ((right_iff g).1 e).2.1 i _ hpk
            rw [hm] at this
            cases this
        have HB := Lib.hid hbel
        clear hall hbr hp hok hbel hpk hm hnd t1 t2 ok1 ok2
        go_wp2_with fail
        go_quiet (fail)
        all_goals go_wp2_with fail
        all_goals go_ret
        all_goals exact ⟨by rw [HF.out]; rfl, below_drewN HB.out _⟩
      · have hm' : 2 ≤ a2 ∧ a2.tdiv 2 < a1.tdiv 2 ∧ a1.tdiv 2 < g.n + 1 + i := by
          have := ((mayB_eq a1 a2 (g.n + 1 + i) _).1 hm.symm).1 rfl
          split at t1 <;> split at t2 <;> omega
        obtain ⟨m1, m2, m3⟩ := hm'
        clear t1 t2 ok1 ok2
        have HB := Lib.hid hbr
        have HBL := Lib.hid hbel
        have HP := Lib.hid hp
        have HOK := Lib.hid hok
        have HND := Lib.hid hnd
        have HA : Hid (∀ (j : Nat) (p : Pr), j < i + 1 → g.as[j]? = some p → mayB p.1 p.2 (g.n + 1 + j) = true) := fun j p hj hpj => by
          rcases Nat.lt_or_ge j i with h | h
          · exact hall j p h hpj
          · obtain rfl : j = i := by omega
            rw [hpk] at hpj
            cases hpj
            exact hm
        have HK := Lib.hid hpk
        clear hall hbr hp hok hbel hpk hm hnd
        go_wp2_with fail
        go_quiet (fail)
        go_wp2_with fail
        obtain ⟨wo, rfl⟩ : ∃ wo : World, wo = wr := ⟨_, rfl⟩
        go_loopw [6] (fun s wi => ∃ k : Nat, k ≤ i ∧ s = .int .i64 k ∧ Below (w.heap.size + 1) (w.alloc (.cells #[.int .i64 g.n, .slice (some ⟨b', o', none⟩) g.as.length c] 24)) wi ∧ Hid (∀ j : Nat, j < k → g.as[j]? ≠ some (a1, a2))) (fun s _ => i - (intOf s).toNat)
        case atStart => exact ⟨0, Nat.zero_le _, rfl, below_drewN HB.out _, fun j hj => by omega⟩
        case round =>
          obtain ⟨k, hk, rfl, hbi, hne⟩ := hrel
          have hbel : Below w.heap.size w wr := ((Below.refl _ _).alloc (Nat.le_refl _) _).trans (hbi.mono (by omega))
          have c1' : wr.cell? ⟨w.heap.size, 1, none⟩ = some (.slice (some ⟨b', o', none⟩) g.as.length c) := ((bcell hbi).1 _ _ (by omega)).trans (by simp)
          obtain ⟨b3, o3, e3, _, j1, j2⟩ := (HP.out.below hbel) i _ HK.out
          injection e3 with e3
          injection e3 with e3 e4
          subst e3 e4
          clear c0 c1 g1 g2
          by_cases hki : k < i
          · obtain ⟨⟨p1, p2⟩, hpj⟩ : ∃ p, g.as[k]? = some p := ⟨_, List.getElem?_eq_getElem (Nat.lt_trans hki hlt)⟩
            obtain ⟨b3, o3, e3, _, q1, q2⟩ := (HP.out.below hbel) k _ hpj
            injection e3 with e3
            injection e3 with e3 e4
            subst e3 e4
            have hki' : (k : Int) < (g.as.length : Int) := by omega
            have hii' : (i : Int) < (g.as.length : Int) := by omega
            have hqe := @eql_pair
            have HBI := Lib.hid hbi
            have HPJ := Lib.hid hpj
            clear hbi hpj hbel
            by_cases he : p1 = a1 ∧ p2 = a2
            · obtain ⟨rfl, rfl⟩ := he
              go_wp2_with fail
              go_quiet (fail)
              all_goals go_wp2_with fail
              all_goals go_ret
              have HF : rightB g = false := by
                cases e : rightB g
                · rfl
                · have hn := ((right_iff g).1 e).2.2
                  have := (List.getElem?_inj (Nat.lt_trans hki hlt) hn).1 (HPJ.out.trans HK.out.symm)
                  omega
              exact ⟨by rw [HF]; rfl, below_drewN (((Below.refl _ _).alloc (Nat.le_refl _) _).trans (HBI.out.mono (by omega))) _⟩
            · have he' : (p1 == a1 && p2 == a2) = false := by simpa using he
              have HNE : Hid (∀ j : Nat, j < k + 1 → g.as[j]? ≠ some (a1, a2)) := fun j hj => by
                rcases Nat.lt_or_ge j k with h | h
                · exact hne.out j h
                · obtain rfl : j = k := by omega
                  rw [HPJ.out]
                  intro e'
                  simp at e'
                  exact he e'
              clear he
              go_wp2_with fail
              go_quiet (fail)
              all_goals go_wp2_with fail
              all_goals go_roundw
              case rel => exact ⟨k + 1, by omega, by go_num, below_drewN HBI.out _, HNE.out⟩
              case measure => simp [intOf]; omega
          · have hke : k = i := by omega
            subst hke
            have HB2 := Lib.hid hbi
            have HND2 : Hid ((g.as.take (k + 1)).Nodup) := by
              show (g.as.take (k + 1)).Nodup
              rw [List.take_add_one, HK.out]
              refine List.nodup_append.2 ⟨HND.out, by simp, fun x hx y hy => ?_⟩
              simp at hy
              subst hy
              rintro rfl
              obtain ⟨j, hj, e⟩ := List.getElem_of_mem hx
              rw [List.length_take] at hj
              refine hne.out j (by omega) ?_
              rw [List.getElem_take] at e
              rw [List.getElem?_eq_getElem (by omega), e]
            clear hbi hne hbel
            go_wp2_with fail
            go_roundw
            case rel => exact ⟨k + 1, by omega, by go_num, HB2.out, HA.out, HND2.out⟩
            case measure => simp [intOf]; omega
    · have hie : i = g.as.length := by omega
      subst hie
      have HF : Hid (rightB g = true) := (right_iff g).2 ⟨⟨h0, h1, h2, h3⟩, fun j p hj => hall j p (List.getElem?_eq_some_iff.1 hj).1 hj, by rw [List.take_length] at hnd; exact hnd⟩
      have HB := Lib.hid hbel
      clear hall hbr hp hok hbel hnd hs
      go_wp2_with fail
      go_ret
      exact ⟨by rw [HF.out]; rfl, HB.out⟩

theorem rright_any (g : Gr) (A : Option Addr) (c : Nat) (w : World) (hg : GOk g) (hp : Prs w w.heap.size A g.as) :
    Calls Try.prog 60 #[.agg #[.int .i64 g.n, .slice A g.as.length c]] w (Ret w (.bool (rightB g))) := by
  obtain ⟨h1, h2, h3⟩ := hg
  cases hs : sizeB g
  · exact rright_size g A c w hs h2
  · exact rright_in g A c w hs hp h3
end Go.Proofs.Ytbdhkagcbncefaa

namespace Go.Proofs.Ytbdhkagcbncefaa
open Go.RowKit Go.Maps

theorem Two.step {w w' w'' : World} {Q : Nat → Prop} {g : Gr} {A : Option Addr} {c : Nat} (h : Two w w' Q g A c) (hb : Below w'.heap.size w' w'') : Two w w'' Q g A c :=
  ⟨below2 h.below h.below.size hb, Nat.le_trans h.big hb.size, h.gb.below hb h.gb.lt, h.rb.below hb h.rb.lt, h.prs.below hb⟩

/-- What Two's own world hands back: no graph, an error. -/
theorem Two.err {w w' : World} {Q : Nat → Prop} {g : Gr} {A : Option Addr} {c : Nat} (h : Two w w' Q g A c) (e : Int) (x y : Value) :
    RetG w Q (noG, 0, e) (.returned (.tuple #[.agg #[.int .i64 0, .slice none 0 0], .int .i64 0, .int .i64 e])) ((w'.setCell ⟨w.heap.size + 1, 0, none⟩ x).setCell ⟨w.heap.size + 1, 1, none⟩ y) :=
  ⟨none, 0, rfl, Nat.le_refl _, PrsQ.nil, (h.below.setCell (p := ⟨w.heap.size + 1, 0, none⟩) (by simp) _).setCell (p := ⟨w.heap.size + 1, 1, none⟩) (by simp) _⟩

/-- .. or its graph, and a literal. -/
theorem Two.same {w w' : World} {Q : Nat → Prop} {g : Gr} {A : Option Addr} {c : Nat} (h : Two w w' Q g A c) (hc : g.as.length ≤ c) (l : Int) (x y : Value) :
    RetG w Q (g, l, 0) (.returned (.tuple #[.agg #[.int .i64 g.n, .slice A g.as.length c], .int .i64 l, .int .i64 0])) ((w'.setCell ⟨w.heap.size + 1, 0, none⟩ x).setCell ⟨w.heap.size + 1, 1, none⟩ y) := by
  refine ⟨A, c, rfl, hc, ?_, (h.below.setCell (p := ⟨w.heap.size + 1, 0, none⟩) (by simp) _).setCell (p := ⟨w.heap.size + 1, 1, none⟩) (by simp) _⟩
  refine ((h.prs.setCell (g := w.heap.size + 1) ?_ _).setCell (g := w.heap.size + 1) ?_ _).imp ?_
  · rintro b (⟨_, h⟩ | h) <;> omega
  · rintro b (⟨_, h⟩ | h) <;> omega
  · rintro b (⟨h1, h2⟩ | h) _
    · exact .inl ⟨h1, h2⟩
    · exact .inr (by omega)

theorem own_snoc {w : World} {base : Nat} {e : TypeId} {v : Value} {n : Nat} {ps : List Pr} {x y : Int} (h : w.ownsRow base e 2 v (0 + n + 1) ([] ++ flat ps ++ [.int .i64 x, .int .i64 y])) :
    w.ownsRow base e 2 v (n + 1) (flat (ps ++ [(x, y)])) := by
  rw [flat_append]
  rw [Nat.zero_add] at h
  exact h

theorem own_below {w w' : World} {base : Nat} {e : TypeId} {size n : Nat} {v : Value} {xs : List Value} (h : w.ownsRow base e size v n xs) (hb : Below w.heap.size w w') : w'.ownsRow base e size v n xs := by
  obtain ⟨h1, h2⟩ := h
  refine ⟨h1, ?_⟩
  rcases h2 with h2 | ⟨g, cap, cur, hv, hg, hh, r⟩
  · exact .inl h2
  · exact .inr ⟨g, cap, cur, hv, hg, Blk.below (cs := cur) hh hb (Blk.lt (cs := cur) hh), r⟩

theorem rlit_is (g : Gr) (l : Int) (x : Bool) (hx : litB g l = x) (A : Option Addr) (c : Nat) (w : World) (h2 : g.as.length ≤ 8796093022208) (h3 : l ≤ 9223372036854775807) :
    Calls Try.prog 64 #[.agg #[.int .i64 g.n, .slice A g.as.length c], .int .i64 l] w (Ret w (.bool x)) := by
  subst hx
  exact rlit_any g l A c w h2 h3
theorem rright_is (g : Gr) (x : Bool) (hx : rightB g = x) (A : Option Addr) (c : Nat) (w : World) (hg : GOk g) (hp : Prs w w.heap.size A g.as) :
    Calls Try.prog 60 #[.agg #[.int .i64 g.n, .slice A g.as.length c]] w (Ret w (.bool x)) := by
  subst hx
  exact rright_any g A c w hg hp

theorem rand_no (g : Gr) (a b : Int) (A : Option Addr) (c : Nat) (w : World) (Q : Nat → Prop) (hg : GOk g) (ha : a ≤ 9223372036854775807) (hb : b ≤ 9223372036854775807) (hp : PrsQ w Q A g.as) (hl : (rightB g && (litB g a && litB g b)) = false) :
    Calls Try.prog 69 #[.agg #[.int .i64 g.n, .slice A g.as.length c], .int .i64 a, .int .i64 b] w (RetG w Q (noG, 0, 1)) := by
  have hnot := @not_run Try.prog
  have hgl : g.as.length ≤ 8796093022208 := hg.2.1
  have HT := Lib.hid (Two.begin_ (c := c) hp)
  have HG := Lib.hid hg
  clear hg hp
  cases hr : rightB g
  · have HC := Lib.hid (rright_is g false hr A c _ HG.out HT.out.prs.prs)
    clear hl hr
    go_enter Try.func69, Try.ntmps69
    go_wp2_with fail
    refine HC.out.mono ?_
    rintro e w2 ⟨rfl, hb2⟩
    have HT2 := Lib.hid (HT.out.step hb2)
    have d0 : w2.cell? ⟨w.heap.size + 1, 0, none⟩ = some (.int .i64 0) := HT2.out.rb.cell 0
    have d1 : w2.cell? ⟨w.heap.size + 1, 1, none⟩ = some (.slice none 0 0) := HT2.out.rb.cell 1
    have f0 := HT2.out.rb.frozen 0
    have f1 := HT2.out.rb.frozen 1
    clear hb2
    go_wp2_with fail
    refine bodyPost_ret (v := .tuple #[.agg #[.int .i64 0, .slice none 0 0], .int .i64 0, .int .i64 1]) (by simp [results, Try.results69, go_sem, d0, d1]) rfl (HT2.out.err 1 _ _)
  · rw [hr] at hl
    have HC := Lib.hid (rright_is g true hr A c _ HG.out HT.out.prs.prs)
    clear hr
    cases hla : litB g a
    · have HLA := Lib.hid hla
      clear hl hla
      go_enter Try.func69, Try.ntmps69
      go_wp2_with fail
      refine HC.out.mono ?_
      rintro e w2 ⟨rfl, hb2⟩
      have HT2 := Lib.hid (HT.out.step hb2)
      have e0 : w2.cell? ⟨w.heap.size, 0, none⟩ = some (.int .i64 g.n) := HT2.out.gb.cell 0
      have e1 : w2.cell? ⟨w.heap.size, 1, none⟩ = some (.slice A g.as.length c) := HT2.out.gb.cell 1
      clear hb2
      go_wp2_with fail
      refine (rlit_is g a false HLA.out A c _ hgl ha).mono ?_
      rintro e w3 ⟨rfl, hb3⟩
      have HT3 := Lib.hid (HT2.out.step hb3)
      clear hb3 e0 e1
      have d0 : w3.cell? ⟨w.heap.size + 1, 0, none⟩ = some (.int .i64 0) := HT3.out.rb.cell 0
      have d1 : w3.cell? ⟨w.heap.size + 1, 1, none⟩ = some (.slice none 0 0) := HT3.out.rb.cell 1
      have f0 := HT3.out.rb.frozen 0
      have f1 := HT3.out.rb.frozen 1
      go_wp2_with fail
      refine bodyPost_ret (v := .tuple #[.agg #[.int .i64 0, .slice none 0 0], .int .i64 0, .int .i64 1]) (by simp [results, Try.results69, go_sem, d0, d1]) rfl (HT3.out.err 1 _ _)
    · have hlb : litB g b = false := by rw [hla] at hl; simpa using hl
      have HLA := Lib.hid hla
      have HLB := Lib.hid hlb
      clear hl hla hlb
      go_enter Try.func69, Try.ntmps69
      go_wp2_with fail
      refine HC.out.mono ?_
      rintro e w2 ⟨rfl, hb2⟩
      have HT2 := Lib.hid (HT.out.step hb2)
      have e0 : w2.cell? ⟨w.heap.size, 0, none⟩ = some (.int .i64 g.n) := HT2.out.gb.cell 0
      have e1 : w2.cell? ⟨w.heap.size, 1, none⟩ = some (.slice A g.as.length c) := HT2.out.gb.cell 1
      clear hb2
      go_wp2_with fail
      refine (rlit_is g a true HLA.out A c _ hgl ha).mono ?_
      rintro e w3 ⟨rfl, hb3⟩
      have HT3 := Lib.hid (HT2.out.step hb3)
      clear hb3 e0 e1
      have e0 : w3.cell? ⟨w.heap.size, 0, none⟩ = some (.int .i64 g.n) := HT3.out.gb.cell 0
      have e1 : w3.cell? ⟨w.heap.size, 1, none⟩ = some (.slice A g.as.length c) := HT3.out.gb.cell 1
      go_wp2_with fail
      refine (rlit_is g b false HLB.out A c _ hgl hb).mono ?_
      rintro e w4 ⟨rfl, hb4⟩
      have HT4 := Lib.hid (HT3.out.step hb4)
      clear hb4 e0 e1
      have d0 : w4.cell? ⟨w.heap.size + 1, 0, none⟩ = some (.int .i64 0) := HT4.out.rb.cell 0
      have d1 : w4.cell? ⟨w.heap.size + 1, 1, none⟩ = some (.slice none 0 0) := HT4.out.rb.cell 1
      have f0 := HT4.out.rb.frozen 0
      have f1 := HT4.out.rb.frozen 1
      go_wp2_with fail
      refine bodyPost_ret (v := .tuple #[.agg #[.int .i64 0, .slice none 0 0], .int .i64 0, .int .i64 1]) (by simp [results, Try.results69, go_sem, d0, d1]) rfl (HT4.out.err 1 _ _)

theorem triv_cases (x y : Int) (hle : y ≤ x) (hy : 0 ≤ y) :
    (y = 0 ∧ trivG x y = some 0) ∨ (y ≠ 0 ∧ x / 2 = y / 2 ∧ x ≠ y ∧ trivG x y = some 0) ∨ (y ≠ 0 ∧ x / 2 = y / 2 ∧ x = y ∧ trivG x y = some x) ∨ (y ≠ 0 ∧ x / 2 ≠ y / 2 ∧ x ≠ y ∧ y = 1 ∧ trivG x y = some x) ∨
      (y ≠ 0 ∧ x / 2 ≠ y / 2 ∧ y ≠ 1 ∧ x ≠ y ∧ trivG x y = none) := by
  unfold trivG
  by_cases h1 : y = 0
  · exact .inl ⟨h1, if_pos (.inl h1)⟩
  · by_cases h2 : x / 2 = y / 2
    · by_cases h3 : x = y
      · exact .inr (.inr (.inl ⟨h1, h2, h3, (if_neg (by omega)).trans (if_pos (.inr h3))⟩))
      · exact .inr (.inl ⟨h1, h2, h3, if_pos (.inr ⟨h2, h3⟩)⟩)
    · have h3 : x ≠ y := fun e => h2 (by rw [e])
      by_cases h4 : y = 1
      · exact .inr (.inr (.inr (.inl ⟨h1, h2, h3, h4, (if_neg (by omega)).trans (if_pos (.inl h4))⟩)))
      · exact .inr (.inr (.inr (.inr ⟨h1, h2, h4, h3, (if_neg (by omega)).trans (if_neg (by omega))⟩)))

set_option maxRecDepth 100000 in
set_option maxHeartbeats 1000000 in
theorem rand_hi (g : Gr) (a b x y : Int) (hxy : (x = a ∧ y = b) ∨ (x = b ∧ y = a)) (hlt : y < x) (A : Option Addr) (c : Nat) (w : World) (Q : Nat → Prop) (hg : GOk g) (hy0 : 0 ≤ y) (hx1 : x ≤ 4001) (hc : g.as.length ≤ c) (hp : PrsQ w Q A g.as) (hr : rightB g = true) (hla : litB g a = true) (hlb : litB g b = true) :
    Calls Try.prog 69 #[.agg #[.int .i64 g.n, .slice A g.as.length c], .int .i64 a, .int .i64 b] w (RetG w Q (andHi g x y)) := by
  have hnot := @not_run Try.prog
  have hgl : g.as.length ≤ 8796093022208 := hg.2.1
  have HT := Lib.hid (Two.begin_ (c := c) hp)
  have HC := Lib.hid (rright_is g true hr A c _ hg HT.out.prs.prs)
  obtain ⟨⟨n0, n1, n2, n3⟩, _, hnd⟩ := (right_iff g).1 hr
  clear hg hp hr hnd
  rcases hxy with ⟨rfl, rfl⟩ | ⟨rfl, rfl⟩
  all_goals
    have HLA := Lib.hid hla
    have HLB := Lib.hid hlb
    clear hla hlb
    go_enter Try.func69, Try.ntmps69
    go_wp2_with fail
    refine HC.out.mono ?_
    rintro e w2 ⟨rfl, hb2⟩
    have HT2 := Lib.hid (HT.out.step hb2)
    have e0 : w2.cell? ⟨w.heap.size, 0, none⟩ = some (.int .i64 g.n) := HT2.out.gb.cell 0
    have e1 : w2.cell? ⟨w.heap.size, 1, none⟩ = some (.slice A g.as.length c) := HT2.out.gb.cell 1
    clear hb2
    go_wp2_with fail
    refine (rlit_is g _ true HLA.out A c _ hgl (by omega)).mono ?_
    rintro e w3 ⟨rfl, hb3⟩
    have HT3 := Lib.hid (HT2.out.step hb3)
    clear hb3 e0 e1
    have e0 : w3.cell? ⟨w.heap.size, 0, none⟩ = some (.int .i64 g.n) := HT3.out.gb.cell 0
    have e1 : w3.cell? ⟨w.heap.size, 1, none⟩ = some (.slice A g.as.length c) := HT3.out.gb.cell 1
    go_wp2_with fail
    refine (rlit_is g _ true HLB.out A c _ hgl (by omega)).mono ?_
    rintro e w4 ⟨rfl, hb4⟩
    have HT4 := Lib.hid (HT3.out.step hb4)
    clear hb4 e0 e1 HLA HLB HT HT2 HT3 HC
    have e0 : w4.cell? ⟨w.heap.size, 0, none⟩ = some (.int .i64 g.n) := HT4.out.gb.cell 0
    have e1 : w4.cell? ⟨w.heap.size, 1, none⟩ = some (.slice A g.as.length c) := HT4.out.gb.cell 1
    have d0 : w4.cell? ⟨w.heap.size + 1, 0, none⟩ = some (.int .i64 0) := HT4.out.rb.cell 0
    have d1 : w4.cell? ⟨w.heap.size + 1, 1, none⟩ = some (.slice none 0 0) := HT4.out.rb.cell 1
    have f0 := HT4.out.rb.frozen 0
    have f1 := HT4.out.rb.frozen 1
    rcases triv_cases x y (by omega) hy0 with ⟨h1, ht⟩ | ⟨h1, h2, h3, ht⟩ | ⟨h1, h2, h3, ht⟩ | ⟨h1, h2, h3, h4, ht⟩ | ⟨h1, h2, h3, h4, ht⟩
    · have hA : Hid (andHi g x y = (g, 0, 0)) := by show andHi g x y = _; unfold andHi; rw [ht]
      have b1 : (y == 0) = true := by simpa using h1
      clear h1 ht
      go_wp2_with fail
      refine bodyPost_ret (v := .tuple #[.agg #[.int .i64 g.n, .slice A g.as.length c], .int .i64 0, .int .i64 0]) (by simp [results, Try.results69, go_sem, d0, d1]) rfl ?_
      rw [hA.out]
      exact HT4.out.same hc 0 _ _
    · have hA : Hid (andHi g x y = (g, 0, 0)) := by show andHi g x y = _; unfold andHi; rw [ht]
      have b1 : (y == 0) = false := by simpa using h1
      have b2 : (x / 2 == y / 2) = true := by simpa using h2
      have b3 : (x != y) = true := by simpa using h3
      clear h1 h2 h3 ht
      go_wp2_with fail
      refine bodyPost_ret (v := .tuple #[.agg #[.int .i64 g.n, .slice A g.as.length c], .int .i64 0, .int .i64 0]) (by simp [results, Try.results69, go_sem, d0, d1]) rfl ?_
      rw [hA.out]
      exact HT4.out.same hc 0 _ _
    · omega
    · have hA : Hid (andHi g x y = (g, x, 0)) := by show andHi g x y = _; unfold andHi; rw [ht]
      have b1 : (y == 0) = false := by simpa using h1
      have b2 : (x / 2 == y / 2) = false := by simpa using h2
      have b3 : (y == 1) = true := by simpa using h4
      clear h1 h2 h3 h4 ht
      go_wp2_with fail
      refine bodyPost_ret (v := .tuple #[.agg #[.int .i64 g.n, .slice A g.as.length c], .int .i64 x, .int .i64 0]) (by simp [results, Try.results69, go_sem, d0, d1]) rfl ?_
      rw [hA.out]
      exact HT4.out.same hc x _ _
    · have hA : Hid (andHi g x y = match placeOf g.as (x, y) with
        | some i => (g, 2 * (g.n + 1 + i), 0)
        | none => if g.vars ≥ 2000 then (noG, 0, 2) else (⟨g.n, g.as ++ [(x, y)]⟩, 2 * g.vars, 0)) := by show andHi g x y = _; unfold andHi; rw [ht]; rfl
      have b1 : (y == 0) = false := by simpa using h1
      have b2 : (x / 2 == y / 2) = false := by simpa using h2
      have b3 : (y == 1) = false := by simpa using h3
      have b4 : (x == y) = false := by simpa using h4
      clear h1 h2 h3 h4 ht
      go_wp2_with fail
      go_loop [9] (fun s => ∃ k : Nat, k ≤ g.as.length ∧ s = .int .i64 k ∧ Hid (∀ j : Nat, j < k → g.as[j]? ≠ some (x, y))) (fun s => g.as.length - (intOf s).toNat)
      case atStart => exact ⟨0, Nat.zero_le _, rfl, fun j hj => by omega⟩
      case round =>
        obtain ⟨k, hk, rfl, hne⟩ := hrel
        by_cases hlk : k < g.as.length
        · obtain ⟨⟨p1, p2⟩, hpk⟩ : ∃ p, g.as[k]? = some p := ⟨_, List.getElem?_eq_getElem hlk⟩
          obtain ⟨b', o', rfl, hlb, q1, q2⟩ := HT4.out.prs k _ hpk
          have hqe := @eql_pair
          have HPK := Lib.hid hpk
          clear hpk
          by_cases he : p1 = x ∧ p2 = y
          · obtain ⟨rfl, rfl⟩ := he
            have HI : Hid (andHi g p1 p2 = (g, 2 * (g.n + 1 + k), 0)) := by
              show andHi g p1 p2 = _
              rw [hA.out, placeOf_first HPK.out hne.out]
            clear hA hne
            go_wp2_with fail
            go_region
            all_goals go_wp2_with fail
            all_goals
              refine bodyPost_ret (v := .tuple #[.agg #[.int .i64 g.n, .slice (some ⟨b', o', none⟩) g.as.length c], .int .i64 (2 * (g.n + 1 + k)), .int .i64 0]) (by simp [results, Try.results69, go_sem, d0, d1]) rfl ?_
              rw [HI.out]
              exact (HT4.out.step (Below.refl _ _).drew).same hc _ _ _
          · have he' : (p1 == x && p2 == y) = false := by simpa using he
            have HNE : Hid (∀ j : Nat, j < k + 1 → g.as[j]? ≠ some (x, y)) := fun j hj => by
              rcases Nat.lt_or_ge j k with h | h
              · exact hne.out j h
              · obtain rfl : j = k := by omega
                rw [HPK.out]
                intro e'
                simp at e'
                exact he e'
            clear he hne
            go_wp2_with fail
            go_round
            case rel => exact ⟨k + 1, by omega, by go_num, HNE.out⟩
            case measure => simp [intOf]; omega
        · have hke : k = g.as.length := by omega
          subst hke
          have HI : Hid (andHi g x y = if g.vars ≥ 2000 then (noG, 0, 2) else (⟨g.n, g.as ++ [(x, y)]⟩, 2 * g.vars, 0)) := by
            show andHi g x y = _
            rw [hA.out, placeOf_none.2]
            intro hm
            obtain ⟨j, hj, e⟩ := List.getElem_of_mem hm
            exact hne.out j hj (by rw [List.getElem?_eq_getElem hj, e])
          clear hA hne
          go_wp2_with fail
          refine (rvars_any g.n A g.as.length c _ n0 (by omega) hgl).mono ?_
          rintro e w5 ⟨rfl, hb5⟩
          have HT5 := Lib.hid (HT4.out.step hb5)
          clear hb5 e0 e1 d0 d1 f0 f1 HT4
          have e0 : w5.cell? ⟨w.heap.size, 0, none⟩ = some (.int .i64 g.n) := HT5.out.gb.cell 0
          have e1 : w5.cell? ⟨w.heap.size, 1, none⟩ = some (.slice A g.as.length c) := HT5.out.gb.cell 1
          have d0 : w5.cell? ⟨w.heap.size + 1, 0, none⟩ = some (.int .i64 0) := HT5.out.rb.cell 0
          have d1 : w5.cell? ⟨w.heap.size + 1, 1, none⟩ = some (.slice none 0 0) := HT5.out.rb.cell 1
          have f0 := HT5.out.rb.frozen 0
          have f1 := HT5.out.rb.frozen 1
          by_cases hv : g.n + 1 + g.as.length ≥ 2000
          · have HI2 : Hid (andHi g x y = (noG, 0, 2)) := HI.out.trans (if_pos hv)
            go_wp2_with fail
            refine bodyPost_ret (v := .tuple #[.agg #[.int .i64 0, .slice none 0 0], .int .i64 0, .int .i64 2]) (by simp [results, Try.results69, go_sem, d0, d1]) rfl ?_
            rw [HI2.out]
            exact HT5.out.err 2 _ _
          · have HI2 : Hid (andHi g x y = (⟨g.n, g.as ++ [(x, y)]⟩, 2 * g.vars, 0)) := HI.out.trans (if_neg hv)
            have hv' : g.n + 1 + g.as.length < 2000 := by omega
            clear hv
            clear e0 e1
            have g0 : ∀ O, (w5.alloc O).cell? ⟨w.heap.size, 0, none⟩ = some (.int .i64 g.n) := fun O => (HT5.out.gb.alloc O).cell 0
            have g1 : ∀ O, (w5.alloc O).cell? ⟨w.heap.size, 1, none⟩ = some (.slice A g.as.length c) := fun O => (HT5.out.gb.alloc O).cell 1
            have HV : ∀ O, Hid (Vals (w5.alloc O) _ A (flat g.as)) := fun O => ((HT5.out.prs.prs.alloc (Nat.le_refl _) O).vals)
            obtain ⟨i0, hi0, hz0, hz1, hz2⟩ := info_parts pairInfo
            go_wp2_with (first
              | (at_builtin; refine wpList_append_vals _ rfl (.tmp 90) (.tmp 92) _ rfl (w5.heap.size + 1) 41 i0 _ 2 16 Try.underlying22 hi0 hz0 hz1 hz2 rfl (by omega) (.slice none 0 0) 0 [] rfl (World.ownsRow_nil _ _ _ _) _ A g.as.length c (flat g.as) rfl (flat_length g.as) (HV _).out (flat_one g.as) (by unfold maxLen; omega) (by omega) (by simp) ?_; intro v1 w6 hown1 hg6; have hz6 : w5.heap.size + 1 ≤ w6.heap.size := (by have := hg6.size; simpa using this); have HO6 := Lib.hid hown1; have HG6 := Lib.hid hg6; clear hown1 hg6)
              | (at_builtin; refine wpList_append_vals _ rfl (.tmp 93) (.tmp 97) _ rfl (w5.heap.size + 1) 41 i0 _ 2 16 Try.underlying22 hi0 hz0 hz1 hz2 rfl (by omega) v1 (0 + g.as.length) ([] ++ flat g.as) rfl (HO6.out.alloc _) _ _ 1 1 [.int .i64 x, .int .i64 y] rfl rfl (vals_new w6 [.int .i64 x, .int .i64 y] 41) (flat_one [(x, y)]) (by unfold maxLen; omega) (by omega) (by simp; omega) ?_; intro v2 w7 hown2 hg7; have HO7 := Lib.hid (own_snoc hown2); obtain ⟨A7, c7, hv7, hc7⟩ := own_form HO7.out; have HG7 := Lib.hid hg7; clear hown2 hg7; subst hv7; have OB := ((Blk.new w5 24 #[.int .i64 g.n, .slice none 0 0]).grown HG6.out (by simp [Value.ownBlock])).alloc (.cells #[.int .i64 x, .int .i64 y] 41); have OB7 := OB.grown HG7.out (fun e => by have := own_block HO6.out _ e.symm; omega); have o0 : w7.cell? ⟨w5.heap.size, 0, none⟩ = some (.int .i64 g.n) := OB7.cell 0; have o1 : w7.cell? ⟨w5.heap.size, 1, none⟩ = some (.slice none 0 0) := OB7.cell 1; have fo1 := OB7.frozen 1; have HOB := Lib.hid OB7; clear OB OB7))
            have hb7 : Below w5.heap.size w5 w7 := (((Below.refl _ _).alloc (Nat.le_refl _) _).grown HG6.out (by simp) (by simp [Value.ownBlock])).alloc (by omega) _ |>.grown HG7.out (by simp; omega) (fun k hk => by have := own_block HO6.out _ hk; omega)
            have HT7 := Lib.hid (HT5.out.step hb7)
            have OB8 := HOB.out.set_ 1 (.slice A7 (g.as.length + 1) c7)
            have hbig := HT5.out.big
            have hz7 := hb7.size
            have rb8 := HT7.out.rb.far (p := ⟨w5.heap.size, 1, none⟩) (by simp; omega) (.slice A7 (g.as.length + 1) c7)
            have hbl8 := HT7.out.below.setCell (p := ⟨w5.heap.size, 1, none⟩) (by simp; omega) (.slice A7 (g.as.length + 1) c7)
            have own8 := ownsRow_setCell_below HO7.out (a := ⟨w5.heap.size, 1, none⟩) (by simp) (.slice A7 (g.as.length + 1) c7)
            have hz8 : (w7.setCell ⟨w5.heap.size, 1, none⟩ (.slice A7 (g.as.length + 1) c7)).heap.size = w7.heap.size := by simp [World.setCell]
            have HOB8 := Lib.hid OB8
            have HRB8 := Lib.hid rb8
            have HBL8 := Lib.hid hbl8
            have HOWN8 := Lib.hid own8
            have HZ8 := Lib.hid hz8
            have r0 : w7.cell? ⟨w.heap.size + 1, 0, none⟩ = some (.int .i64 0) := HT7.out.rb.cell 0
            have r1 : w7.cell? ⟨w.heap.size + 1, 1, none⟩ = some (.slice none 0 0) := HT7.out.rb.cell 1
            have q0 := HT7.out.rb.frozen 0
            have q1 := HT7.out.rb.frozen 1
            clear OB8 rb8 hbl8 own8 hz8 hb7 d0 d1 f0 f1 g0 g1
            go_region_with (go_at_call 37; refine (rvars_any g.n A7 (g.as.length + 1) c7 _ n0 (by omega) (by omega)).mono ?_; rintro e w9 ⟨rfl, hb9⟩; have OB9 := (Blk.drew HOB8.out).below hb9 (Blk.lt HOB8.out); have p0 : w9.cell? ⟨w5.heap.size, 0, none⟩ = some (.int .i64 g.n) := OB9.cell 0; have p1 : w9.cell? ⟨w5.heap.size, 1, none⟩ = some (.slice A7 (g.as.length + 1) c7) := OB9.cell 1; have RB9 := (Blk.drew HRB8.out).below hb9 (Blk.lt HRB8.out); have s0 : w9.cell? ⟨w.heap.size + 1, 0, none⟩ = some (.int .i64 0) := RB9.cell 0; have s1 : w9.cell? ⟨w.heap.size + 1, 1, none⟩ = some (.slice none 0 0) := RB9.cell 1; have y0 := RB9.frozen 0; have y1 := RB9.frozen 1; have HB9 := Lib.hid hb9; clear OB9 RB9 hb9)
            all_goals go_wp2_with fail
            all_goals
              refine bodyPost_ret (v := .tuple #[.agg #[.int .i64 g.n, .slice A7 (g.as.length + 1) c7], .int .i64 (2 * (g.n + 1 + ((g.as.length + 1 : Nat) : Int)) - 2), .int .i64 0]) (by simp [results, Try.results69, go_sem, s0, s1, Act.put]; simp only [IntKind.wrap_i64]; omega) rfl ?_
              rw [HI2.out]
              refine ⟨A7, c7, ?_, by simpa using hc7, PrsQ.of_own (ownsRow_setCell_below (ownsRow_setCell_below (own_below (World.ownsRow.drew HOWN8.out) HB9.out) (a := ⟨w.heap.size + 1, 0, none⟩) (by simp; omega) _) (a := ⟨w.heap.size + 1, 1, none⟩) (by simp; omega) _) (fun b hb => .inr (by omega)), ((below2 HBL8.out.drew HBL8.out.size HB9.out).setCell (p := ⟨w.heap.size + 1, 0, none⟩) (by simp) _).setCell (p := ⟨w.heap.size + 1, 1, none⟩) (by simp) _⟩
              have e1 : 2 * (g.n + 1 + ((g.as.length + 1 : Nat) : Int)) - 2 = 2 * g.vars := by unfold Gr.vars; omega
              rw [e1]
              simp
end Go.Proofs.Ytbdhkagcbncefaa

namespace Go.Proofs.Ytbdhkagcbncefaa
open Go.RowKit Go.Maps

set_option maxHeartbeats 400000 in
theorem rand_same (g : Gr) (x : Int) (A : Option Addr) (c : Nat) (w : World) (Q : Nat → Prop) (hg : GOk g) (hy0 : 0 ≤ x) (hx1 : x ≤ 4001) (hc : g.as.length ≤ c) (hp : PrsQ w Q A g.as) (hr : rightB g = true) (hla : litB g x = true) :
    Calls Try.prog 69 #[.agg #[.int .i64 g.n, .slice A g.as.length c], .int .i64 x, .int .i64 x] w (RetG w Q (andHi g x x)) := by
  have hnot := @not_run Try.prog
  have hgl : g.as.length ≤ 8796093022208 := hg.2.1
  have HT := Lib.hid (Two.begin_ (c := c) hp)
  have HC := Lib.hid (rright_is g true hr A c _ hg HT.out.prs.prs)
  have HLA := Lib.hid hla
  clear hg hp hr hla
  go_enter Try.func69, Try.ntmps69
  go_wp2_with fail
  refine HC.out.mono ?_
  rintro e w2 ⟨rfl, hb2⟩
  have HT2 := Lib.hid (HT.out.step hb2)
  have e0 : w2.cell? ⟨w.heap.size, 0, none⟩ = some (.int .i64 g.n) := HT2.out.gb.cell 0
  have e1 : w2.cell? ⟨w.heap.size, 1, none⟩ = some (.slice A g.as.length c) := HT2.out.gb.cell 1
  clear hb2
  go_wp2_with fail
  refine (rlit_is g _ true HLA.out A c _ hgl (by omega)).mono ?_
  rintro e w3 ⟨rfl, hb3⟩
  have HT3 := Lib.hid (HT2.out.step hb3)
  clear hb3 e0 e1
  have e0 : w3.cell? ⟨w.heap.size, 0, none⟩ = some (.int .i64 g.n) := HT3.out.gb.cell 0
  have e1 : w3.cell? ⟨w.heap.size, 1, none⟩ = some (.slice A g.as.length c) := HT3.out.gb.cell 1
  go_wp2_with fail
  refine (rlit_is g _ true HLA.out A c _ hgl (by omega)).mono ?_
  rintro e w4 ⟨rfl, hb4⟩
  have HT4 := Lib.hid (HT3.out.step hb4)
  clear hb4 e0 e1 HLA HT HT2 HT3 HC
  have e0 : w4.cell? ⟨w.heap.size, 0, none⟩ = some (.int .i64 g.n) := HT4.out.gb.cell 0
  have e1 : w4.cell? ⟨w.heap.size, 1, none⟩ = some (.slice A g.as.length c) := HT4.out.gb.cell 1
  have d0 : w4.cell? ⟨w.heap.size + 1, 0, none⟩ = some (.int .i64 0) := HT4.out.rb.cell 0
  have d1 : w4.cell? ⟨w.heap.size + 1, 1, none⟩ = some (.slice none 0 0) := HT4.out.rb.cell 1
  have f0 := HT4.out.rb.frozen 0
  have f1 := HT4.out.rb.frozen 1
  by_cases h1 : x = 0
  · subst h1
    have hA : Hid (andHi g 0 0 = (g, 0, 0)) := by show andHi g 0 0 = _; unfold andHi trivG; rw [if_pos (.inl rfl)]
    go_wp2_with fail
    refine bodyPost_ret (v := .tuple #[.agg #[.int .i64 g.n, .slice A g.as.length c], .int .i64 0, .int .i64 0]) (by simp [results, Try.results69, go_sem, d0, d1]) rfl ?_
    rw [hA.out]
    exact HT4.out.same hc 0 _ _
  · have hA : Hid (andHi g x x = (g, x, 0)) := by show andHi g x x = _; unfold andHi trivG; rw [if_neg (by omega), if_pos (.inr rfl)]
    have b1 : (x == 0) = false := by simpa using h1
    clear h1
    by_cases h2 : x = 1
    · subst h2
      clear b1
      go_wp2_with fail
      refine bodyPost_ret (v := .tuple #[.agg #[.int .i64 g.n, .slice A g.as.length c], .int .i64 1, .int .i64 0]) (by simp [results, Try.results69, go_sem, d0, d1]) rfl ?_
      rw [hA.out]
      exact HT4.out.same hc 1 _ _
    · have b3 : (x == 1) = false := by simpa using h2
      clear h2
      go_wp2_with fail
      refine bodyPost_ret (v := .tuple #[.agg #[.int .i64 g.n, .slice A g.as.length c], .int .i64 x, .int .i64 0]) (by simp [results, Try.results69, go_sem, d0, d1]) rfl ?_
      rw [hA.out]
      exact HT4.out.same hc x _ _

/-- '(parterreref01.And)': what is made of two literals. -/
theorem rand_any (g : Gr) (a b : Int) (A : Option Addr) (c : Nat) (w : World) (Q : Nat → Prop) (hg : GOk g) (ha : a ≤ 9223372036854775807) (hb : b ≤ 9223372036854775807) (hc : g.as.length ≤ c) (hp : PrsQ w Q A g.as) :
    Calls Try.prog 69 #[.agg #[.int .i64 g.n, .slice A g.as.length c], .int .i64 a, .int .i64 b] w (RetG w Q (andG g a b)) := by
  unfold andG
  cases hl : (rightB g && (litB g a && litB g b))
  · exact rand_no g a b A c w Q hg ha hb hp hl
  · rw [if_pos rfl]
    rw [Bool.and_eq_true, Bool.and_eq_true] at hl
    obtain ⟨hr, h1, h2⟩ := hl
    have l1 := (litB_iff g a).1 h1
    have l2 := (litB_iff g b).1 h2
    have hs := (right_iff g).1 hr
    rcases Int.lt_trichotomy a b with h | h | h
    · rw [Int.max_eq_right (by omega), Int.min_eq_left (by omega)]
      exact rand_hi g a b b a (.inr ⟨rfl, rfl⟩) h A c w Q hg (by omega) (by omega) hc hp hr h1 h2
    · subst h
      rw [Int.max_eq_right (Int.le_refl _), Int.min_eq_left (Int.le_refl _)]
      exact rand_same g a A c w Q hg (by omega) (by omega) hc hp hr h1
    · rw [Int.max_eq_left (by omega), Int.min_eq_right (by omega)]
      exact rand_hi g a b a b (.inl ⟨rfl, rfl⟩) h A c w Q hg (by omega) (by omega) hc hp hr h1 h2

theorem ror_any (g : Gr) (a b : Int) (A : Option Addr) (c : Nat) (w : World) (Q : Nat → Prop) (hg : GOk g) (ha : a ≤ 9223372036854775807) (hb : b ≤ 9223372036854775807) (hc : g.as.length ≤ c) (hp : PrsQ w Q A g.as) :
    Calls Try.prog 70 #[.agg #[.int .i64 g.n, .slice A g.as.length c], .int .i64 a, .int .i64 b] w (RetG w Q (orG g a b)) := by
  by_cases hneg : a < 0 ∨ b < 0
  · have HE : Hid (orG g a b = (noG, 0, 1)) := if_pos hneg
    clear hg hp hc ha hb
    by_cases ha : a < 0
    all_goals
      go_enter Try.func70, Try.ntmps70
      go_wp2_with fail
      refine bodyPost_ret (v := .tuple #[.agg #[.int .i64 0, .slice none 0 0], .int .i64 0, .int .i64 1]) (by simp [results, Try.results70, go_sem]) rfl ?_
      rw [HE.out]
      exact ⟨none, 0, rfl, Nat.le_refl _, PrsQ.nil, ((Below.refl _ _).alloc (Nat.le_refl _) _).alloc (by simp) _⟩
  · have ha0 : 0 ≤ a := by omega
    have hb0 : 0 ≤ b := by omega
    have hxa := xor_flip a ha0 ha
    have hxb := xor_flip b hb0 hb
    have fa := flip_max ha0 ha
    have fb := flip_max hb0 hb
    have HE : Hid (orG g a b = if (andG g (flip a) (flip b)).2.2 = 0 then ((andG g (flip a) (flip b)).1, flip (andG g (flip a) (flip b)).2.1, 0) else (noG, 0, (andG g (flip a) (flip b)).2.2)) := if_neg hneg
    have HB := Lib.hid (((Below.refl w.heap.size w).alloc (Nat.le_refl _) (.cells #[.int .i64 g.n, .slice A g.as.length c] 24)).alloc (by simp) (.cells #[.int .i64 0, .slice none 0 0] 24))
    have HP := Lib.hid ((hp.imp (Q' := fun b => Q b ∧ b < w.heap.size) fun _ h1 h2 => ⟨h1, h2⟩).below HB.out)
    have hlit := andG_lit g (flip a) (flip b)
    have hxr := xor_flip _ hlit.1 (by omega)
    have HC := Lib.hid (rand_any g (flip a) (flip b) A c _ _ hg fa.2 fb.2 hc HP.out)
    clear hg hp hc fa fb HP
    generalize andG g (flip a) (flip b) = r at *
    go_enter Try.func70, Try.ntmps70
    go_wp2_with fail
    refine HC.out.mono ?_
    rintro e w1 ⟨A1, c1, rfl, hc1, hp1, hb1⟩
    have hb2 := below2 HB.out HB.out.size hb1
    have rb : Blk w1 (w.heap.size + 1) 24 #[.int .i64 0, .slice none 0 0] := by
      have := Blk.new (w.alloc (.cells #[.int .i64 g.n, .slice A g.as.length c] 24)) 24 #[.int .i64 0, .slice none 0 0]
      rw [World.size_alloc] at this
      exact this.below hb1 (by simp)
    have d0 : ∀ O, (w1.alloc O).cell? ⟨w.heap.size + 1, 0, none⟩ = some (.int .i64 0) := fun O => (rb.alloc O).cell 0
    have d1 : ∀ O, (w1.alloc O).cell? ⟨w.heap.size + 1, 1, none⟩ = some (.slice none 0 0) := fun O => (rb.alloc O).cell 1
    have f0 : ∀ O, (w1.alloc O).frozen? ⟨w.heap.size + 1, 0, none⟩ = false := fun O => (rb.alloc O).frozen 0
    have f1 : ∀ O, (w1.alloc O).frozen? ⟨w.heap.size + 1, 1, none⟩ = false := fun O => (rb.alloc O).frozen 1
    have HB2 := Lib.hid hb2
    have HP1 := Lib.hid hp1
    have HC1 := Lib.hid hc1
    clear rb hb2 hp1 hb1 hc1
    by_cases hz : r.2.2 = 0
    · have hz' : (r.2.2 != 0) = false := by simp [hz]
      have HF : Hid (orG g a b = (r.1, flip r.2.1, 0)) := HE.out.trans (if_pos hz)
      clear hz HE HB
      go_wp2_with fail
      refine bodyPost_ret (v := .tuple #[.agg #[.int .i64 r.1.n, .slice A1 r.1.as.length c1], .int .i64 (flip r.2.1), .int .i64 0]) (by simp [results, Try.results70, go_sem, d0, d1]) rfl ?_
      have hb3 := (((Below.refl w1.heap.size w1).alloc (Nat.le_refl _) (.cells #[.int .i64 r.1.n, .slice A1 r.1.as.length c1] 24)))
      rw [HF.out]
      have h1 := HB2.out.alloc HB2.out.size (.cells #[.int .i64 r.1.n, .slice A1 r.1.as.length c1] 24)
      refine ⟨A1, c1, rfl, HC1.out, ?_, (h1.setCell (p := ⟨w.heap.size + 1, 0, none⟩) (by simp) _).setCell (p := ⟨w.heap.size + 1, 1, none⟩) (by simp) _⟩
      refine (((HP1.out.below hb3).setCell (g := w.heap.size + 1) ?_ _).setCell (g := w.heap.size + 1) ?_ _).imp ?_
      · rintro b (⟨⟨_, h⟩, _⟩ | h)
        · omega
        · simp at h
          omega
      · rintro b (⟨⟨_, h⟩, _⟩ | h)
        · omega
        · simp at h
          omega
      · rintro b (⟨⟨h1, h2⟩, _⟩ | h) _
        · exact .inl ⟨h1, h2⟩
        · simp at h
          exact .inr (by omega)
    · have hz' : (r.2.2 != 0) = true := by simp [hz]
      have HF : Hid (orG g a b = (noG, 0, r.2.2)) := HE.out.trans (if_neg hz)
      clear hz HE HB
      go_wp2_with fail
      refine bodyPost_ret (v := .tuple #[.agg #[.int .i64 0, .slice none 0 0], .int .i64 0, .int .i64 r.2.2]) (by simp [results, Try.results70, go_sem, d0, d1]) rfl ?_
      have h1 := HB2.out.alloc HB2.out.size (.cells #[.int .i64 r.1.n, .slice A1 r.1.as.length c1] 24)
      rw [HF.out]
      exact ⟨none, 0, rfl, Nat.le_refl _, PrsQ.nil, (h1.setCell (p := ⟨w.heap.size + 1, 0, none⟩) (by simp) _).setCell (p := ⟨w.heap.size + 1, 1, none⟩) (by simp) _⟩

theorem Two.res {w w' w'' : World} {Q : Nat → Prop} {g : Gr} {A : Option Addr} {c : Nat} (h : Two w w' Q g A c) {A' : Option Addr} {ps : List Pr} (hp : PrsQ w'' (QNew w' (fun b => (Q b ∧ b < w.heap.size) ∨ w.heap.size + 2 ≤ b)) A' ps) :
    PrsQ w'' (fun b => (Q b ∧ b < w.heap.size) ∨ w.heap.size + 2 ≤ b) A' ps := hp.imp (by
  have := h.big
  rintro b (⟨h, _⟩ | h) _
  · exact h
  · exact .inr (by omega))

/-- A graph that was made, a literal, an error, put into the box that is handed back. -/
theorem Two.ret {w w' : World} {Q : Nat → Prop} {g g' : Gr} {A A' : Option Addr} {c c' : Nat} (h : Two w w' Q g A c) (hc : g'.as.length ≤ c') (hp : PrsQ w' (fun b => (Q b ∧ b < w.heap.size) ∨ w.heap.size + 2 ≤ b) A' g'.as) (l e : Int) (x y : Value) :
    RetG w Q (g', l, e) (.returned (.tuple #[.agg #[.int .i64 g'.n, .slice A' g'.as.length c'], .int .i64 l, .int .i64 e])) ((w'.setCell ⟨w.heap.size + 1, 0, none⟩ x).setCell ⟨w.heap.size + 1, 1, none⟩ y) := by
  refine ⟨A', c', rfl, hc, ?_, (h.below.setCell (p := ⟨w.heap.size + 1, 0, none⟩) (by simp) _).setCell (p := ⟨w.heap.size + 1, 1, none⟩) (by simp) _⟩
  refine ((hp.setCell (g := w.heap.size + 1) ?_ _).setCell (g := w.heap.size + 1) ?_ _).imp ?_
  · rintro b (⟨_, h⟩ | h) <;> omega
  · rintro b (⟨_, h⟩ | h) <;> omega
  · rintro b (⟨h1, h2⟩ | h) _
    · exact .inl ⟨h1, h2⟩
    · exact .inr (by omega)

theorem Two.alloc {w w' : World} {Q : Nat → Prop} {g : Gr} {A : Option Addr} {c : Nat} (h : Two w w' Q g A c) (o : Obj) : Two w (w'.alloc o) Q g A c := h.step ((Below.refl _ _).alloc (Nat.le_refl _) o)

set_option maxHeartbeats 400000 in
theorem rite_any (g : Gr) (k a b : Int) (A : Option Addr) (c : Nat) (w : World) (Q : Nat → Prop) (hg : GOk g) (hk : k ≤ 9223372036854775807) (ha : a ≤ 9223372036854775807) (hb : b ≤ 9223372036854775807) (hc : g.as.length ≤ c) (hp : PrsQ w Q A g.as) :
    Calls Try.prog 71 #[.agg #[.int .i64 g.n, .slice A g.as.length c], .int .i64 k, .int .i64 a, .int .i64 b] w (RetG w Q (iteG g k a b)) := by
  by_cases hneg : k < 0
  · have HE : Hid (iteG g k a b = (noG, 0, 1)) := if_pos hneg
    clear hg hp hc ha hb
    go_enter Try.func71, Try.ntmps71
    go_wp2_with fail
    refine bodyPost_ret (v := .tuple #[.agg #[.int .i64 0, .slice none 0 0], .int .i64 0, .int .i64 1]) (by simp [results, Try.results71, go_sem]) rfl ?_
    rw [HE.out]
    exact ⟨none, 0, rfl, Nat.le_refl _, PrsQ.nil, ((Below.refl _ _).alloc (Nat.le_refl _) _).alloc (by simp) _⟩
  · have hk0 : 0 ≤ k := by omega
    have hxk := xor_flip k hk0 hk
    have fk := flip_max hk0 hk
    have HT := Lib.hid (Two.begin_ (c := c) hp)
    have HC := Lib.hid (rand_any g k a A c _ _ hg hk ha hc HT.out.prs)
    have HE : Hid (iteG g k a b = if (andG g k a).2.2 = 0 then (if (andG (andG g k a).1 (flip k) b).2.2 = 0 then orG (andG (andG g k a).1 (flip k) b).1 (andG g k a).2.1 (andG (andG g k a).1 (flip k) b).2.1 else (noG, 0, (andG (andG g k a).1 (flip k) b).2.2)) else (noG, 0, (andG g k a).2.2)) := if_neg hneg
    have HO := Lib.hid (andG_ok hg k a)
    have hl1 := andG_lit g k a
    clear hg hp hc hneg
    generalize andG g k a = r at *
    go_enter Try.func71, Try.ntmps71
    go_wp2_with fail
    refine HC.out.mono ?_
    rintro e w1 ⟨A1, c1, rfl, hc1, hp1, hb1⟩
    have HT1 := Lib.hid ((HT.out.step hb1).alloc (.cells #[.int .i64 r.1.n, .slice A1 r.1.as.length c1] 24))
    have HP1 := Lib.hid ((HT.out.res hp1).alloc (.cells #[.int .i64 r.1.n, .slice A1 r.1.as.length c1] 24))
    have HB1 := Lib.hid ((Blk.new w1 24 #[.int .i64 r.1.n, .slice A1 r.1.as.length c1]))
    have d0 : ∀ i, (w1.alloc (.cells #[.int .i64 r.1.n, .slice A1 r.1.as.length c1] 24)).cell? ⟨w.heap.size + 1, i, none⟩ = #[.int .i64 0, .slice none 0 0][i]? := fun i => HT1.out.rb.cell i
    have f0 : ∀ i, (w1.alloc (.cells #[.int .i64 r.1.n, .slice A1 r.1.as.length c1] 24)).frozen? ⟨w.heap.size + 1, i, none⟩ = false := fun i => HT1.out.rb.frozen i
    have HC1 := Lib.hid hc1
    clear hp1 hb1 hc1 HC HT
    by_cases hz : r.2.2 = 0
    · have hz' : (r.2.2 != 0) = false := by simp [hz]
      have HE1 := Lib.hid (HE.out.trans (if_pos hz))
      clear hz HE
      have HCb := Lib.hid (rand_any r.1 (flip k) b A1 c1 _ _ HO.out fk.2 hb HC1.out HP1.out)
      have HO2 := Lib.hid (andG_ok HO.out (flip k) b)
      have hl2 := andG_lit r.1 (flip k) b
      generalize andG r.1 (flip k) b = s at *
      go_wp2_with fail
      refine HCb.out.mono ?_
      rintro e w2 ⟨A2, c2, rfl, hc2, hp2, hb2⟩
      have HT2 := Lib.hid ((HT1.out.step hb2).alloc (.cells #[.int .i64 s.1.n, .slice A2 s.1.as.length c2] 24))
      have HP2 := Lib.hid ((HT1.out.res hp2).alloc (.cells #[.int .i64 s.1.n, .slice A2 s.1.as.length c2] 24))
      clear d0 f0
      have d0 : ∀ i, (w2.alloc (.cells #[.int .i64 s.1.n, .slice A2 s.1.as.length c2] 24)).cell? ⟨w.heap.size + 1, i, none⟩ = #[.int .i64 0, .slice none 0 0][i]? := fun i => HT2.out.rb.cell i
      have f0 : ∀ i, (w2.alloc (.cells #[.int .i64 s.1.n, .slice A2 s.1.as.length c2] 24)).frozen? ⟨w.heap.size + 1, i, none⟩ = false := fun i => HT2.out.rb.frozen i
      have HC2 := Lib.hid hc2
      clear hp2 hb2 hc2 HCb HT1 HC1 HO
      by_cases hy : s.2.2 = 0
      · have hy' : (s.2.2 != 0) = false := by simp [hy]
        have HE2 := Lib.hid (HE1.out.trans (if_pos hy))
        clear hy HE1
        have HCc := Lib.hid (ror_any s.1 r.2.1 s.2.1 A2 c2 _ _ HO2.out (by omega) (by omega) HC2.out HP2.out)
        generalize orG s.1 r.2.1 s.2.1 = o at *
        go_wp2_with fail
        refine HCc.out.mono ?_
        rintro e w3 ⟨A3, c3, rfl, hc3, hp3, hb3⟩
        have HT3 := Lib.hid (HT2.out.step hb3)
        have HP3 := Lib.hid (HT2.out.res hp3)
        clear d0 f0
        have d0 : w3.cell? ⟨w.heap.size + 1, 0, none⟩ = some (.int .i64 0) := HT3.out.rb.cell 0
        have d1 : w3.cell? ⟨w.heap.size + 1, 1, none⟩ = some (.slice none 0 0) := HT3.out.rb.cell 1
        have f0 := HT3.out.rb.frozen 0
        have f1 := HT3.out.rb.frozen 1
        clear hp3 hb3 HCc
        go_wp2_with fail
        refine bodyPost_ret (v := .tuple #[.agg #[.int .i64 o.1.n, .slice A3 o.1.as.length c3], .int .i64 o.2.1, .int .i64 o.2.2]) (by simp [results, Try.results71, go_sem, d0, d1]) rfl ?_
        rw [HE2.out]
        exact HT3.out.ret hc3 HP3.out _ _ _ _
      · have hy' : (s.2.2 != 0) = true := by simp [hy]
        have HE2 := Lib.hid (HE1.out.trans (if_neg hy))
        clear hy HE1
        go_wp2_with fail
        refine bodyPost_ret (v := .tuple #[.agg #[.int .i64 0, .slice none 0 0], .int .i64 0, .int .i64 s.2.2]) (by simp [results, Try.results71, go_sem, d0]) rfl ?_
        rw [HE2.out]
        exact HT2.out.err _ _ _
    · have hz' : (r.2.2 != 0) = true := by simp [hz]
      have HE1 := Lib.hid (HE.out.trans (if_neg hz))
      clear hz HE
      go_wp2_with fail
      refine bodyPost_ret (v := .tuple #[.agg #[.int .i64 0, .slice none 0 0], .int .i64 0, .int .i64 r.2.2]) (by simp [results, Try.results71, go_sem, d0]) rfl ?_
      rw [HE1.out]
      exact HT1.out.err _ _ _
end Go.Proofs.Ytbdhkagcbncefaa

namespace Go.Proofs.Ytbdhkagcbncefaa
open Go.RowKit Go.Maps

set_option maxHeartbeats 400000 in
theorem same_any (g : Gr) (A B : Option Addr) (c d : Nat) (w : World) (hl : g.as.length ≤ 4000) (hp : Prs w w.heap.size A g.as) (hq : Prs w w.heap.size B g.as) :
    Calls Try.prog 43 #[.agg #[.int .i64 g.n, .slice A g.as.length c], .agg #[.int .i64 g.n, .slice B g.as.length d]] w (Ret w (.bool true)) := by
  have hnot := @not_run Try.prog
  have hqe := @neq_pair
  have hb0 : Below (w.heap.size + 2) ((w.alloc (.cells #[.int .i64 g.n, .slice A g.as.length c] 24)).alloc (.cells #[.int .i64 g.n, .slice B g.as.length d] 24)) ((w.alloc (.cells #[.int .i64 g.n, .slice A g.as.length c] 24)).alloc (.cells #[.int .i64 g.n, .slice B g.as.length d] 24)) := Below.refl _ _
  have hb1 : Below w.heap.size w ((w.alloc (.cells #[.int .i64 g.n, .slice A g.as.length c] 24)).alloc (.cells #[.int .i64 g.n, .slice B g.as.length d] 24)) := ((Below.refl _ _).alloc (Nat.le_refl _) _).alloc (by simp) _
  have G0 : Blk ((w.alloc (.cells #[.int .i64 g.n, .slice A g.as.length c] 24)).alloc (.cells #[.int .i64 g.n, .slice B g.as.length d] 24)) w.heap.size 24 #[.int .i64 g.n, .slice A g.as.length c] := (Blk.new _ _ _).alloc _
  have G1 : Blk ((w.alloc (.cells #[.int .i64 g.n, .slice A g.as.length c] 24)).alloc (.cells #[.int .i64 g.n, .slice B g.as.length d] 24)) (w.heap.size + 1) 24 #[.int .i64 g.n, .slice B g.as.length d] := by
    have := Blk.new (w.alloc (.cells #[.int .i64 g.n, .slice A g.as.length c] 24)) 24 #[.int .i64 g.n, .slice B g.as.length d]
    rw [World.size_alloc] at this
    exact this
  have HG0 := Lib.hid G0
  have HG1 := Lib.hid G1
  have HB1 := Lib.hid hb1
  have hn : (g.n != g.n) = false := by simp
  clear G0 G1 hb1
  go_enter Try.func43, Try.ntmps43
  go_wp2_with fail
  go_loopw [5] (fun s wr => ∃ k : Nat, k ≤ g.as.length ∧ s = .int .i64 k ∧ Below (w.heap.size + 2) ((w.alloc (.cells #[.int .i64 g.n, .slice A g.as.length c] 24)).alloc (.cells #[.int .i64 g.n, .slice B g.as.length d] 24)) wr) (fun s _ => g.as.length - (intOf s).toNat)
  case atStart => exact ⟨0, Nat.zero_le _, rfl, hb0⟩
  case round =>
    obtain ⟨k, hk, rfl, hb⟩ := hrel
    have hbel : Below w.heap.size w wr := HB1.out.trans (hb.mono (by omega))
    have hb0' := HG0.out.below hb (by omega)
    have hb1' := HG1.out.below hb (by omega)
    have c0 : wr.cell? ⟨w.heap.size, 1, none⟩ = some (.slice A g.as.length c) := hb0'.cell 1
    have c1 : wr.cell? ⟨w.heap.size + 1, 1, none⟩ = some (.slice B g.as.length d) := hb1'.cell 1
    by_cases hlt : k < g.as.length
    · obtain ⟨⟨a1, a2⟩, hpk⟩ : ∃ p, g.as[k]? = some p := ⟨_, List.getElem?_eq_getElem hlt⟩
      obtain ⟨b', o', rfl, _, p1, p2⟩ := (hp.below hbel) k _ hpk
      obtain ⟨b2, o2, rfl, _, q1, q2⟩ := (hq.below hbel) k _ hpk
      have hlt' : (k : Int) < (g.as.length : Int) := by omega
      have HB := Lib.hid hb
      have he : (a1 == a1 && a2 == a2) = true := by simp
      clear hp hq hbel hb hpk hb0 hb0' hb1'
      go_wp2_with fail
      go_quiet (fail)
      go_wp2_with fail
      go_roundw
      case rel => exact ⟨k + 1, by omega, by go_num, below_drewN HB.out _⟩
      case measure => simp [intOf]; omega
    · have HB := Lib.hid hbel
      clear hp hq hbel hb hb0 hb0' hb1'
      go_wp2_with fail
      go_ret
      exact ⟨rfl, HB.out⟩
end Go.Proofs.Ytbdhkagcbncefaa

namespace Go.Proofs.Ytbdhkagcbncefaa
open Go.RowKit Go.Maps

/-- A graph, a literal and an error are handed back. -/
def RetP (w : World) (r : Gr × Int × Int) (e : Ending) (w' : World) : Prop :=
  ∃ A c, e = .returned (.tuple #[.agg #[.int .i64 r.1.n, .slice A r.1.as.length c], .int .i64 r.2.1, .int .i64 r.2.2]) ∧ r.1.as.length ≤ c ∧ Prs w' w'.heap.size A r.1.as ∧ Below w.heap.size w w'

theorem RetG.p {w w' : World} {Q : Nat → Prop} {r : Gr × Int × Int} {e : Ending} (h : RetG w Q r e w') : RetP w r e w' := by
  obtain ⟨A, c, h1, h2, h3, h4⟩ := h
  exact ⟨A, c, h1, h2, h3.prs, h4⟩

section
variable (g : Gr) (A : Option Addr) (c : Nat) (w : World) (hg : GOk g) (hc : g.as.length ≤ c) (hp : Prs w w.heap.size A g.as)
include hg hc hp
theorem and_p (a b : Int) (ha : a ≤ 9223372036854775807) (hb : b ≤ 9223372036854775807) :
    Calls Try.prog 40 #[.agg #[.int .i64 g.n, .slice A g.as.length c], .int .i64 a, .int .i64 b] w (RetP w (andG g a b)) := (and_any g a b A c w _ hg ha hb hc hp).mono fun _ _ h => h.p
theorem or_p (a b : Int) (ha : a ≤ 9223372036854775807) (hb : b ≤ 9223372036854775807) :
    Calls Try.prog 45 #[.agg #[.int .i64 g.n, .slice A g.as.length c], .int .i64 a, .int .i64 b] w (RetP w (orG g a b)) := (or_any g a b A c w _ hg ha hb hc hp).mono fun _ _ h => h.p
theorem ite_p (k a b : Int) (hk : k ≤ 9223372036854775807) (ha : a ≤ 9223372036854775807) (hb : b ≤ 9223372036854775807) :
    Calls Try.prog 41 #[.agg #[.int .i64 g.n, .slice A g.as.length c], .int .i64 k, .int .i64 a, .int .i64 b] w (RetP w (iteG g k a b)) := (ite_any g k a b A c w _ hg hk ha hb hc hp).mono fun _ _ h => h.p
theorem rand_p (a b : Int) (ha : a ≤ 9223372036854775807) (hb : b ≤ 9223372036854775807) :
    Calls Try.prog 69 #[.agg #[.int .i64 g.n, .slice A g.as.length c], .int .i64 a, .int .i64 b] w (RetP w (andG g a b)) := (rand_any g a b A c w _ hg ha hb hc hp).mono fun _ _ h => h.p
theorem ror_p (a b : Int) (ha : a ≤ 9223372036854775807) (hb : b ≤ 9223372036854775807) :
    Calls Try.prog 70 #[.agg #[.int .i64 g.n, .slice A g.as.length c], .int .i64 a, .int .i64 b] w (RetP w (orG g a b)) := (ror_any g a b A c w _ hg ha hb hc hp).mono fun _ _ h => h.p
theorem rite_p (k a b : Int) (hk : k ≤ 9223372036854775807) (ha : a ≤ 9223372036854775807) (hb : b ≤ 9223372036854775807) :
    Calls Try.prog 71 #[.agg #[.int .i64 g.n, .slice A g.as.length c], .int .i64 k, .int .i64 a, .int .i64 b] w (RetP w (iteG g k a b)) := (rite_any g k a b A c w _ hg hk ha hb hc hp).mono fun _ _ h => h.p
end

/-- All that was there when the region began is there. -/
theorem held_step {w0 W W' : World} (h : (∀ b o, b < w0.heap.size → W.cell? ⟨b, o, none⟩ = w0.cell? ⟨b, o, none⟩) ∧ Below w0.heap.size w0 W) (hb : Below W.heap.size W W') :
    (∀ b o, b < w0.heap.size → W'.cell? ⟨b, o, none⟩ = w0.cell? ⟨b, o, none⟩) ∧ Below w0.heap.size w0 W' :=
  have h2 := below2 h.2 h.2.size hb
  ⟨(bcell h2).1, h2⟩
theorem held_begin (w0 : World) : (∀ b o, b < w0.heap.size → w0.drew.cell? ⟨b, o, none⟩ = w0.cell? ⟨b, o, none⟩) ∧ Below w0.heap.size w0 w0.drew := ⟨(bcell (Below.refl _ _).drew).1, (Below.refl _ _).drew⟩

/-- A box and what it holds, kept by a call. -/
theorem box_keep {w w' : World} {b : Nat} {t : TypeId} {x y : Value} (h : Blk w b t #[x, y]) (hb : Below w.heap.size w w') (o : Obj) : Blk (w'.alloc o) b t #[x, y] := (h.below hb h.lt).alloc o

theorem orG_lit (g : Gr) (a b : Int) : 0 ≤ (orG g a b).2.1 ∧ (orG g a b).2.1 ≤ 4002 := by
  unfold orG
  split
  · simp
  · dsimp only
    split
    · have := andG_lit g (flip a) (flip b)
      dsimp only
      generalize (andG g (flip a) (flip b)).2.1 = l at *
      unfold flip
      split <;> omega
    · simp

theorem andHi_len {g : Gr} {a b : Int} (hs : 0 ≤ g.n ∧ g.n ≤ 2000 ∧ g.as.length ≤ 2000 ∧ g.n + 1 + g.as.length ≤ 2000) : (andHi g a b).1.as.length ≤ 2000 := by
  unfold andHi
  cases trivG a b with
  | some l => exact hs.2.2.1
  | none =>
    dsimp only
    cases placeOf g.as (a, b) with
    | some i => exact hs.2.2.1
    | none =>
      dsimp only
      split
      · simp [noG]
      · rename_i h
        unfold Gr.vars at h
        simp
        omega
theorem andG_len (g : Gr) (a b : Int) : (andG g a b).1.as.length ≤ 2000 := by
  unfold andG
  split
  · rename_i h
    rw [Bool.and_eq_true, Bool.and_eq_true, right_iff] at h
    exact andHi_len h.1.1
  · simp [noG]
theorem orG_len (g : Gr) (a b : Int) : (orG g a b).1.as.length ≤ 2000 := by
  unfold orG
  split
  · simp [noG]
  · dsimp only
    split
    · exact andG_len _ _ _
    · simp [noG]
theorem iteG_len (g : Gr) (c a b : Int) : (iteG g c a b).1.as.length ≤ 2000 := by
  unfold iteG
  split
  · simp [noG]
  · dsimp only
    split
    · split
      · exact orG_len _ _ _
      · simp [noG]
    · simp [noG]

set_option maxRecDepth 100000 in
set_option maxHeartbeats 2000000 in
theorem lsame_any (g : Gr) (a b k : Int) (A : Option Addr) (c : Nat) (w : World) (hg : GOk g) (ha : a ≤ 9223372036854775807) (hb : b ≤ 9223372036854775807) (hk : k ≤ 9223372036854775807) (hc : g.as.length ≤ c) (hp : Prs w w.heap.size A g.as) :
    Calls Try.prog 39 #[.agg #[.int .i64 g.n, .slice A g.as.length c], .int .i64 a, .int .i64 b, .int .i64 k] w (Ret w (.bool true)) := by
  have hgl : g.as.length ≤ 8796093022208 := hg.2.1
  have l1 := andG_len g a b
  have l2 := orG_len g a b
  have l3 := iteG_len g k a b
  have HG := Lib.hid hg
  have hb0 : Below w.heap.size w (w.alloc (.cells #[.int .i64 g.n, .slice A g.as.length c] 24)) := (Below.refl _ _).alloc (Nat.le_refl _) _
  have HP := Lib.hid (hp.after hb0)
  have HX := Lib.hid (Blk.new w 24 #[.int .i64 g.n, .slice A g.as.length c])
  have HB0 := Lib.hid hb0
  have HC1 : ∀ w, Prs w w.heap.size A g.as → Calls _ _ _ w _ := fun w h => and_p g A c w HG.out hc h a b ha hb
  have HC2 : ∀ w, Prs w w.heap.size A g.as → Calls _ _ _ w _ := fun w h => rand_p g A c w HG.out hc h a b ha hb
  have HC3 : ∀ w, Prs w w.heap.size A g.as → Calls _ _ _ w _ := fun w h => or_p g A c w HG.out hc h a b ha hb
  have HC4 : ∀ w, Prs w w.heap.size A g.as → Calls _ _ _ w _ := fun w h => ror_p g A c w HG.out hc h a b ha hb
  have HC5 : ∀ w, Prs w w.heap.size A g.as → Calls _ _ _ w _ := fun w h => ite_p g A c w HG.out hc h k a b hk ha hb
  have HC6 : ∀ w, Prs w w.heap.size A g.as → Calls _ _ _ w _ := fun w h => rite_p g A c w HG.out hc h k a b hk ha hb
  clear hg hb0
  generalize andG g a b = r at *
  generalize orG g a b = s at *
  generalize iteG g k a b = t at *
  have H1 := Lib.hid HC1
  have H2 := Lib.hid HC2
  have H3 := Lib.hid HC3
  have H4 := Lib.hid HC4
  have H5 := Lib.hid HC5
  have H6 := Lib.hid HC6
  clear HC1 HC2 HC3 HC4 HC5 HC6 hp
  go_enter Try.func39, Try.ntmps39
  go_wp2_with fail
  refine (H1.out _ HP.out).mono ?_
  rintro e w1 ⟨A1, c1, rfl, hc1, hp1, hb1⟩
  have hbb1 : Below _ _ (w1.alloc (.cells #[.int .i64 r.1.n, .slice A1 r.1.as.length c1] 24)) := hb1.trans (((Below.refl _ _).alloc (Nat.le_refl _) (.cells #[.int .i64 r.1.n, .slice A1 r.1.as.length c1] 24)).mono hb1.size)
  have HP1 := Lib.hid (HP.out.after hbb1)
  have HBB1 := Lib.hid hbb1
  have HR1 := Lib.hid (hp1.alloc (Nat.le_refl _) (.cells #[.int .i64 r.1.n, .slice A1 r.1.as.length c1] 24) |>.more (Nat.le_of_lt (by simp : w1.heap.size < (w1.alloc (.cells #[.int .i64 r.1.n, .slice A1 r.1.as.length c1] 24)).heap.size)))
  have HY1 := Lib.hid (Blk.new w1 24 #[.int .i64 r.1.n, .slice A1 r.1.as.length c1])
  have x0 : (w1.alloc (.cells #[.int .i64 r.1.n, .slice A1 r.1.as.length c1] 24)).cell? ⟨w.heap.size, 0, none⟩ = some (.int .i64 g.n) := (HX.out.below HBB1.out HX.out.lt).cell 0
  have x1 : (w1.alloc (.cells #[.int .i64 r.1.n, .slice A1 r.1.as.length c1] 24)).cell? ⟨w.heap.size, 1, none⟩ = some (.slice A g.as.length c) := (HX.out.below HBB1.out HX.out.lt).cell 1
  have HX1 := Lib.hid (HX.out.below HBB1.out HX.out.lt)
  clear hbb1 hp1 hb1
  go_wp2_with fail
  clear x0 x1
  refine (H2.out _ HP1.out).mono ?_
  rintro e w2 ⟨A2, c2, rfl, hc2, hp2, hb2⟩
  have hbb2 : Below _ _ (w2.alloc (.cells #[.int .i64 r.1.n, .slice A2 r.1.as.length c2] 24)) := hb2.trans (((Below.refl _ _).alloc (Nat.le_refl _) (.cells #[.int .i64 r.1.n, .slice A2 r.1.as.length c2] 24)).mono hb2.size)
  have HP2 := Lib.hid (HP1.out.after hbb2)
  have HBB2 := Lib.hid hbb2
  have HR2 := Lib.hid (hp2.alloc (Nat.le_refl _) (.cells #[.int .i64 r.1.n, .slice A2 r.1.as.length c2] 24) |>.more (Nat.le_of_lt (by simp : w2.heap.size < (w2.alloc (.cells #[.int .i64 r.1.n, .slice A2 r.1.as.length c2] 24)).heap.size)))
  have HY2 := Lib.hid (Blk.new w2 24 #[.int .i64 r.1.n, .slice A2 r.1.as.length c2])
  have x0 : (w2.alloc (.cells #[.int .i64 r.1.n, .slice A2 r.1.as.length c2] 24)).cell? ⟨w.heap.size, 0, none⟩ = some (.int .i64 g.n) := (HX1.out.below HBB2.out HX1.out.lt).cell 0
  have x1 : (w2.alloc (.cells #[.int .i64 r.1.n, .slice A2 r.1.as.length c2] 24)).cell? ⟨w.heap.size, 1, none⟩ = some (.slice A g.as.length c) := (HX1.out.below HBB2.out HX1.out.lt).cell 1
  have HX2 := Lib.hid (HX1.out.below HBB2.out HX1.out.lt)
  clear hbb2 hp2 hb2
  go_wp2_with fail
  clear x0 x1
  refine (H3.out _ HP2.out).mono ?_
  rintro e w3 ⟨A3, c3, rfl, hc3, hp3, hb3⟩
  have hbb3 : Below _ _ (w3.alloc (.cells #[.int .i64 s.1.n, .slice A3 s.1.as.length c3] 24)) := hb3.trans (((Below.refl _ _).alloc (Nat.le_refl _) (.cells #[.int .i64 s.1.n, .slice A3 s.1.as.length c3] 24)).mono hb3.size)
  have HP3 := Lib.hid (HP2.out.after hbb3)
  have HBB3 := Lib.hid hbb3
  have HR3 := Lib.hid (hp3.alloc (Nat.le_refl _) (.cells #[.int .i64 s.1.n, .slice A3 s.1.as.length c3] 24) |>.more (Nat.le_of_lt (by simp : w3.heap.size < (w3.alloc (.cells #[.int .i64 s.1.n, .slice A3 s.1.as.length c3] 24)).heap.size)))
  have HY3 := Lib.hid (Blk.new w3 24 #[.int .i64 s.1.n, .slice A3 s.1.as.length c3])
  have x0 : (w3.alloc (.cells #[.int .i64 s.1.n, .slice A3 s.1.as.length c3] 24)).cell? ⟨w.heap.size, 0, none⟩ = some (.int .i64 g.n) := (HX2.out.below HBB3.out HX2.out.lt).cell 0
  have x1 : (w3.alloc (.cells #[.int .i64 s.1.n, .slice A3 s.1.as.length c3] 24)).cell? ⟨w.heap.size, 1, none⟩ = some (.slice A g.as.length c) := (HX2.out.below HBB3.out HX2.out.lt).cell 1
  have HX3 := Lib.hid (HX2.out.below HBB3.out HX2.out.lt)
  clear hbb3 hp3 hb3
  go_wp2_with fail
  clear x0 x1
  refine (H4.out _ HP3.out).mono ?_
  rintro e w4 ⟨A4, c4, rfl, hc4, hp4, hb4⟩
  have hbb4 : Below _ _ (w4.alloc (.cells #[.int .i64 s.1.n, .slice A4 s.1.as.length c4] 24)) := hb4.trans (((Below.refl _ _).alloc (Nat.le_refl _) (.cells #[.int .i64 s.1.n, .slice A4 s.1.as.length c4] 24)).mono hb4.size)
  have HP4 := Lib.hid (HP3.out.after hbb4)
  have HBB4 := Lib.hid hbb4
  have HR4 := Lib.hid (hp4.alloc (Nat.le_refl _) (.cells #[.int .i64 s.1.n, .slice A4 s.1.as.length c4] 24) |>.more (Nat.le_of_lt (by simp : w4.heap.size < (w4.alloc (.cells #[.int .i64 s.1.n, .slice A4 s.1.as.length c4] 24)).heap.size)))
  have HY4 := Lib.hid (Blk.new w4 24 #[.int .i64 s.1.n, .slice A4 s.1.as.length c4])
  have x0 : (w4.alloc (.cells #[.int .i64 s.1.n, .slice A4 s.1.as.length c4] 24)).cell? ⟨w.heap.size, 0, none⟩ = some (.int .i64 g.n) := (HX3.out.below HBB4.out HX3.out.lt).cell 0
  have x1 : (w4.alloc (.cells #[.int .i64 s.1.n, .slice A4 s.1.as.length c4] 24)).cell? ⟨w.heap.size, 1, none⟩ = some (.slice A g.as.length c) := (HX3.out.below HBB4.out HX3.out.lt).cell 1
  have HX4 := Lib.hid (HX3.out.below HBB4.out HX3.out.lt)
  clear hbb4 hp4 hb4
  go_wp2_with fail
  clear x0 x1
  refine (H5.out _ HP4.out).mono ?_
  rintro e w5 ⟨A5, c5, rfl, hc5, hp5, hb5⟩
  have hbb5 : Below _ _ (w5.alloc (.cells #[.int .i64 t.1.n, .slice A5 t.1.as.length c5] 24)) := hb5.trans (((Below.refl _ _).alloc (Nat.le_refl _) (.cells #[.int .i64 t.1.n, .slice A5 t.1.as.length c5] 24)).mono hb5.size)
  have HP5 := Lib.hid (HP4.out.after hbb5)
  have HBB5 := Lib.hid hbb5
  have HR5 := Lib.hid (hp5.alloc (Nat.le_refl _) (.cells #[.int .i64 t.1.n, .slice A5 t.1.as.length c5] 24) |>.more (Nat.le_of_lt (by simp : w5.heap.size < (w5.alloc (.cells #[.int .i64 t.1.n, .slice A5 t.1.as.length c5] 24)).heap.size)))
  have HY5 := Lib.hid (Blk.new w5 24 #[.int .i64 t.1.n, .slice A5 t.1.as.length c5])
  have x0 : (w5.alloc (.cells #[.int .i64 t.1.n, .slice A5 t.1.as.length c5] 24)).cell? ⟨w.heap.size, 0, none⟩ = some (.int .i64 g.n) := (HX4.out.below HBB5.out HX4.out.lt).cell 0
  have x1 : (w5.alloc (.cells #[.int .i64 t.1.n, .slice A5 t.1.as.length c5] 24)).cell? ⟨w.heap.size, 1, none⟩ = some (.slice A g.as.length c) := (HX4.out.below HBB5.out HX4.out.lt).cell 1
  have HX5 := Lib.hid (HX4.out.below HBB5.out HX4.out.lt)
  clear hbb5 hp5 hb5
  go_wp2_with fail
  clear x0 x1
  refine (H6.out _ HP5.out).mono ?_
  rintro e w6 ⟨A6, c6, rfl, hc6, hp6, hb6⟩
  have hbb6 : Below _ _ (w6.alloc (.cells #[.int .i64 t.1.n, .slice A6 t.1.as.length c6] 24)) := hb6.trans (((Below.refl _ _).alloc (Nat.le_refl _) (.cells #[.int .i64 t.1.n, .slice A6 t.1.as.length c6] 24)).mono hb6.size)
  have HP6 := Lib.hid (HP5.out.after hbb6)
  have HBB6 := Lib.hid hbb6
  have HR6 := Lib.hid (hp6.alloc (Nat.le_refl _) (.cells #[.int .i64 t.1.n, .slice A6 t.1.as.length c6] 24) |>.more (Nat.le_of_lt (by simp : w6.heap.size < (w6.alloc (.cells #[.int .i64 t.1.n, .slice A6 t.1.as.length c6] 24)).heap.size)))
  have HY6 := Lib.hid (Blk.new w6 24 #[.int .i64 t.1.n, .slice A6 t.1.as.length c6])
  have x0 : (w6.alloc (.cells #[.int .i64 t.1.n, .slice A6 t.1.as.length c6] 24)).cell? ⟨w.heap.size, 0, none⟩ = some (.int .i64 g.n) := (HX5.out.below HBB6.out HX5.out.lt).cell 0
  have x1 : (w6.alloc (.cells #[.int .i64 t.1.n, .slice A6 t.1.as.length c6] 24)).cell? ⟨w.heap.size, 1, none⟩ = some (.slice A g.as.length c) := (HX5.out.below HBB6.out HX5.out.lt).cell 1
  have HX6 := Lib.hid (HX5.out.below HBB6.out HX5.out.lt)
  clear hbb6 hp6 hb6
  go_wp2_with fail
  clear x0 x1
  have y1 := HY1.out
  have q1 := HR1.out
  have y1 := y1.below HBB2.out y1.lt
  have q1 := q1.after HBB2.out
  have y1 := y1.below HBB3.out y1.lt
  have q1 := q1.after HBB3.out
  have y1 := y1.below HBB4.out y1.lt
  have q1 := q1.after HBB4.out
  have y1 := y1.below HBB5.out y1.lt
  have q1 := q1.after HBB5.out
  have y1 := y1.below HBB6.out y1.lt
  have q1 := q1.after HBB6.out
  have y2 := HY2.out
  have q2 := HR2.out
  have y2 := y2.below HBB3.out y2.lt
  have q2 := q2.after HBB3.out
  have y2 := y2.below HBB4.out y2.lt
  have q2 := q2.after HBB4.out
  have y2 := y2.below HBB5.out y2.lt
  have q2 := q2.after HBB5.out
  have y2 := y2.below HBB6.out y2.lt
  have q2 := q2.after HBB6.out
  have y3 := HY3.out
  have q3 := HR3.out
  have y3 := y3.below HBB4.out y3.lt
  have q3 := q3.after HBB4.out
  have y3 := y3.below HBB5.out y3.lt
  have q3 := q3.after HBB5.out
  have y3 := y3.below HBB6.out y3.lt
  have q3 := q3.after HBB6.out
  have y4 := HY4.out
  have q4 := HR4.out
  have y4 := y4.below HBB5.out y4.lt
  have q4 := q4.after HBB5.out
  have y4 := y4.below HBB6.out y4.lt
  have q4 := q4.after HBB6.out
  have y5 := HY5.out
  have q5 := HR5.out
  have y5 := y5.below HBB6.out y5.lt
  have q5 := q5.after HBB6.out
  have y6 := HY6.out
  have q6 := HR6.out
  have y0 := HX6.out
  have q0 := HP6.out
  have hbb : Below w.heap.size w (w6.alloc (.cells #[.int .i64 t.1.n, .slice A6 t.1.as.length c6] 24)) := HB0.out.trans ((((((HBB1.out.trans (HBB2.out.mono HBB1.out.size)).trans (HBB3.out.mono (Nat.le_trans HBB1.out.size HBB2.out.size))).trans (HBB4.out.mono (Nat.le_trans HBB1.out.size (Nat.le_trans HBB2.out.size HBB3.out.size)))).trans (HBB5.out.mono (Nat.le_trans HBB1.out.size (Nat.le_trans HBB2.out.size (Nat.le_trans HBB3.out.size HBB4.out.size))))).trans (HBB6.out.mono (Nat.le_trans HBB1.out.size (Nat.le_trans HBB2.out.size (Nat.le_trans HBB3.out.size (Nat.le_trans HBB4.out.size HBB5.out.size)))))).mono HB0.out.size)
  clear HY1 HY2 HY3 HY4 HY5 HY6 HR1 HR2 HR3 HR4 HR5 HR6 HBB1 HBB2 HBB3 HBB4 HBB5 HBB6 HX HX1 HX2 HX3 HX4 HX5 HX6 HP HP1 HP2 HP3 HP4 HP5 HP6 H1 H2 H3 H4 H5 H6 HB0
  generalize w6.alloc (.cells #[.int .i64 t.1.n, .slice A6 t.1.as.length c6] 24) = w7 at *
  have z0 := y0.lt
  have e0a : w7.cell? ⟨w.heap.size, 0, none⟩ = some (.int .i64 g.n) := y0.cell 0
  have e0b : w7.cell? ⟨w.heap.size, 1, none⟩ = some (.slice A g.as.length c) := y0.cell 1
  have Q0 := Lib.hid q0
  have z1 := y1.lt
  have e1a : w7.cell? ⟨w1.heap.size, 0, none⟩ = some (.int .i64 r.1.n) := y1.cell 0
  have e1b : w7.cell? ⟨w1.heap.size, 1, none⟩ = some (.slice A1 r.1.as.length c1) := y1.cell 1
  have Q1 := Lib.hid q1
  have z2 := y2.lt
  have e2a : w7.cell? ⟨w2.heap.size, 0, none⟩ = some (.int .i64 r.1.n) := y2.cell 0
  have e2b : w7.cell? ⟨w2.heap.size, 1, none⟩ = some (.slice A2 r.1.as.length c2) := y2.cell 1
  have Q2 := Lib.hid q2
  have z3 := y3.lt
  have e3a : w7.cell? ⟨w3.heap.size, 0, none⟩ = some (.int .i64 s.1.n) := y3.cell 0
  have e3b : w7.cell? ⟨w3.heap.size, 1, none⟩ = some (.slice A3 s.1.as.length c3) := y3.cell 1
  have Q3 := Lib.hid q3
  have z4 := y4.lt
  have e4a : w7.cell? ⟨w4.heap.size, 0, none⟩ = some (.int .i64 s.1.n) := y4.cell 0
  have e4b : w7.cell? ⟨w4.heap.size, 1, none⟩ = some (.slice A4 s.1.as.length c4) := y4.cell 1
  have Q4 := Lib.hid q4
  have z5 := y5.lt
  have e5a : w7.cell? ⟨w5.heap.size, 0, none⟩ = some (.int .i64 t.1.n) := y5.cell 0
  have e5b : w7.cell? ⟨w5.heap.size, 1, none⟩ = some (.slice A5 t.1.as.length c5) := y5.cell 1
  have Q5 := Lib.hid q5
  have z6 := y6.lt
  have e6a : w7.cell? ⟨w6.heap.size, 0, none⟩ = some (.int .i64 t.1.n) := y6.cell 0
  have e6b : w7.cell? ⟨w6.heap.size, 1, none⟩ = some (.slice A6 t.1.as.length c6) := y6.cell 1
  have Q6 := Lib.hid q6
  have HBB := Lib.hid hbb
  clear y0 y1 y2 y3 y4 y5 y6 q0 q1 q2 q3 q4 q5 q6 hbb hc1 hc2 hc3 hc4 hc5 hc6
  go_region_held3 (fun W => (∀ b o, b < w7.heap.size → W.cell? ⟨b, o, none⟩ = w7.cell? ⟨b, o, none⟩) ∧ Below w7.heap.size w7 W)
    (first
      | exact held_begin w7
      | exact held_step (by assumption) (by assumption))
    (first
      | (go_at_call 42; refine (Right_any g A c _ HG.out (Q0.out.after (And.right (by assumption)))).mono ?_; rintro e w8 ⟨rfl, hb8⟩)
      | (go_at_call 60; refine (rright_any g A c _ HG.out (Q0.out.after (And.right (by assumption)))).mono ?_; rintro e w8 ⟨rfl, hb8⟩)
      | (go_at_call 44; refine (lit_any g a A c _ hgl ha).mono ?_; rintro e w8 ⟨rfl, hb8⟩)
      | (go_at_call 64; refine (rlit_any g a A c _ hgl ha).mono ?_; rintro e w8 ⟨rfl, hb8⟩)
      | (go_at_call 43; (with_reducible refine (same_any r.1 A1 A2 c1 c2 _ (by omega) (Q1.out.after (And.right (by assumption))) (Q2.out.after (And.right (by assumption)))).mono ?_); rintro e w8 ⟨rfl, hb8⟩)
      | (go_at_call 43; (with_reducible refine (same_any s.1 A3 A4 c3 c4 _ (by omega) (Q3.out.after (And.right (by assumption))) (Q4.out.after (And.right (by assumption)))).mono ?_); rintro e w8 ⟨rfl, hb8⟩)
      | (go_at_call 43; (with_reducible refine (same_any t.1 A5 A6 c5 c6 _ (by omega) (Q5.out.after (And.right (by assumption))) (Q6.out.after (And.right (by assumption)))).mono ?_); rintro e w8 ⟨rfl, hb8⟩))
  go_wp2_with fail
  go_ret
  exact ⟨rfl, HBB.out.trans ((And.right (by assumption : (∀ b o, b < w7.heap.size → World.cell? _ ⟨b, o, none⟩ = w7.cell? ⟨b, o, none⟩) ∧ Below w7.heap.size w7 _)).mono HBB.out.size)⟩
end Go.Proofs.Ytbdhkagcbncefaa

namespace Go.Proofs.Ytbdhkagcbncefaa
open Go.RowKit Go.Maps

def g1 : Gr := ⟨2, [(4, 2)]⟩
theorem g1_and : andG ⟨2, []⟩ 2 4 = (g1, 6, 0) := by rfl
theorem g1_or : orG g1 7 6 = (g1, 1, 0) := by rfl
theorem g1_no : andG g1 8 2 = (noG, 0, 1) := by rfl
theorem g1_right : rightB g1 = true := by rfl
theorem g1_lit7 : litB g1 7 = true := by rfl
theorem g1_lit8 : litB g1 8 = false := by rfl
theorem g0_ok : GOk ⟨2, []⟩ := ⟨by decide, by simp, by simp⟩
theorem g1_ok : GOk g1 := ⟨by decide, by simp [g1], by simp [g1, PrOk]; decide⟩

theorem vals2 {A : Option Addr} {w : World} {B : Nat} (h : Prs w B A [(4, 2)]) : ∃ b o, A = some ⟨b, o, none⟩ ∧ b < B ∧ w.cell? ⟨b, o, none⟩ = some (.int .i64 4) ∧ w.cell? ⟨b, o + 1, none⟩ = some (.int .i64 2) := by
  obtain ⟨b, o, e, hb, h1, h2⟩ := h 0 _ rfl
  exact ⟨b, o, e, hb, by simpa using h1, by simpa using h2⟩

set_option maxHeartbeats 1000000 in
theorem awake1_any (w : World) : Calls Try.prog 38 #[] w (Ret w (.bool true)) := by
  have hnot := @not_run Try.prog
  have hqe := @eql_pair
  have n1 : g1.n = 2 := rfl
  have l1 : g1.as.length = 1 := rfl
  have n0 : noG.n = 0 := rfl
  have l0 : noG.as.length = 0 := rfl
  have H1 := Lib.hid (and_p ⟨2, []⟩ none 0 w g0_ok (by simp) Prs.nil 2 4 (by omega) (by omega))
  rw [g1_and] at H1
  go_enter Try.func38, Try.ntmps38
  go_wp2_with fail
  refine H1.out.mono ?_
  rintro e w1 ⟨A1, c1, rfl, hc1, hp1, hb1⟩
  have HB1 := Lib.hid (hb1.trans (((Below.refl w1.heap.size w1).alloc (Nat.le_refl _) (.cells #[.int .i64 2, .slice A1 1 c1] 24)).mono hb1.size))
  have HP1 := Lib.hid ((hp1.alloc (Nat.le_refl _) (.cells #[.int .i64 2, .slice A1 1 c1] 24)).more (Nat.le_of_lt (by simp : w1.heap.size < (w1.alloc (.cells #[.int .i64 2, .slice A1 1 c1] 24)).heap.size)))
  have HX1 := Lib.hid (Blk.new w1 24 #[.int .i64 2, .slice A1 1 c1])
  have HC1 := Lib.hid hc1
  clear hb1 hp1 hc1 H1
  have H2 := Lib.hid (or_p g1 A1 c1 _ g1_ok HC1.out HP1.out 7 6 (by omega) (by omega))
  rw [g1_or] at H2
  go_wp2_with fail
  refine H2.out.mono ?_
  rintro e w2 ⟨A2, c2, rfl, hc2, hp2, hb2⟩
  have hbb := hb2.trans (((Below.refl w2.heap.size w2).alloc (Nat.le_refl _) (.cells #[.int .i64 2, .slice A2 1 c2] 24)).mono hb2.size)
  have HX2 := Lib.hid (HX1.out.below hbb HX1.out.lt)
  have HP2 := Lib.hid (HP1.out.after hbb)
  have HB2 := Lib.hid (below2 HB1.out HB1.out.size hbb)
  clear hbb hb2 hp2 hc2 H2 HX1 HP1 HB1
  have H3 := Lib.hid (and_p g1 A1 c1 _ g1_ok HC1.out HP2.out 8 2 (by omega) (by omega))
  rw [g1_no] at H3
  have x0 : (w2.alloc (.cells #[.int .i64 2, .slice A2 1 c2] 24)).cell? ⟨w1.heap.size, 0, none⟩ = some (.int .i64 2) := HX2.out.cell 0
  have x1 : (w2.alloc (.cells #[.int .i64 2, .slice A2 1 c2] 24)).cell? ⟨w1.heap.size, 1, none⟩ = some (.slice A1 1 c1) := HX2.out.cell 1
  go_wp2_with fail
  refine H3.out.mono ?_
  rintro e w3 ⟨A3, c3, rfl, hc3, hp3, hb3⟩
  have hbb := hb3.trans (((Below.refl w3.heap.size w3).alloc (Nat.le_refl _) (.cells #[.int .i64 0, .slice A3 0 c3] 24)).mono hb3.size)
  have HX3 := Lib.hid (HX2.out.below hbb HX2.out.lt)
  have HP3 := Lib.hid (HP2.out.after hbb)
  have HB3 := Lib.hid (below2 HB2.out HB2.out.size hbb)
  clear hbb hb3 hp3 hc3 H3 HX2 HP2 HB2 x0 x1
  have x0 : (w3.alloc (.cells #[.int .i64 0, .slice A3 0 c3] 24)).cell? ⟨w1.heap.size, 0, none⟩ = some (.int .i64 2) := HX3.out.cell 0
  have x1 : (w3.alloc (.cells #[.int .i64 0, .slice A3 0 c3] 24)).cell? ⟨w1.heap.size, 1, none⟩ = some (.slice A1 1 c1) := HX3.out.cell 1
  obtain ⟨b, o, hA, _, q0, q1⟩ := vals2 HP3.out
  have H4 : Calls _ _ _ _ _ := Right_any g1 A1 c1 _ g1_ok HP3.out
  rw [g1_right] at H4
  subst hA
  have H4 := Lib.hid H4
  go_wp2_with fail
  refine H4.out.mono ?_
  rintro e w4 ⟨rfl, hb4⟩
  have HX4 := Lib.hid (HX3.out.below hb4 HX3.out.lt)
  have HB4 := Lib.hid (below2 HB3.out HB3.out.size hb4)
  clear x0 x1 q0 q1 hb4 HX3 HB3 H4
  have x0 : w4.cell? ⟨w1.heap.size, 0, none⟩ = some (.int .i64 2) := HX4.out.cell 0
  have x1 : w4.cell? ⟨w1.heap.size, 1, none⟩ = some (.slice (some ⟨b, o, none⟩) 1 c1) := HX4.out.cell 1
  go_wp2_with fail
  refine (lit_yes g1 7 true g1_lit7 (some ⟨b, o, none⟩) c1 _ (by decide) (by omega)).mono ?_
  rintro e w5 ⟨rfl, hb5⟩
  have HX5 := Lib.hid (HX4.out.below hb5 HX4.out.lt)
  have HB5 := Lib.hid (below2 HB4.out HB4.out.size hb5)
  clear x0 x1 hb5 HX4 HB4
  have x0 : w5.cell? ⟨w1.heap.size, 0, none⟩ = some (.int .i64 2) := HX5.out.cell 0
  have x1 : w5.cell? ⟨w1.heap.size, 1, none⟩ = some (.slice (some ⟨b, o, none⟩) 1 c1) := HX5.out.cell 1
  go_wp2_with fail
  refine (lit_yes g1 8 false g1_lit8 (some ⟨b, o, none⟩) c1 _ (by decide) (by omega)).mono ?_
  rintro e w6 ⟨rfl, hb6⟩
  have HB6 := Lib.hid (below2 HB5.out HB5.out.size hb6)
  clear x0 x1 hb6 HX5 HB5
  go_wp2_with fail
  go_ret
  exact ⟨rfl, HB6.out⟩
end Go.Proofs.Ytbdhkagcbncefaa

namespace Go.Proofs.Ytbdhkagcbncefaa

theorem andG_zero {g : Gr} {a b : Int} (he : (andG g a b).2.2 = 0) : rightB g = true ∧ litB g a = true ∧ litB g b = true ∧ andG g a b = andHi g (max a b) (min a b) := by
  unfold andG at he ⊢
  cases h : (rightB g && (litB g a && litB g b))
  · rw [h] at he
    simp at he
  · rw [if_pos rfl]
    simp only [Bool.and_eq_true] at h
    exact ⟨h.1, h.2.1, h.2.2, rfl⟩

theorem andHi_cases (g : Gr) (a b : Int) :
    (trivG a b = some 0 ∧ andHi g a b = (g, 0, 0)) ∨ (trivG a b = some a ∧ andHi g a b = (g, a, 0)) ∨ (trivG a b = none ∧ ∃ i : Nat, placeOf g.as (a, b) = some i ∧ andHi g a b = (g, 2 * (g.n + 1 + i), 0)) ∨
    (trivG a b = none ∧ placeOf g.as (a, b) = none ∧ g.vars ≥ 2000 ∧ andHi g a b = (noG, 0, 2)) ∨ (trivG a b = none ∧ placeOf g.as (a, b) = none ∧ g.vars < 2000 ∧ andHi g a b = (⟨g.n, g.as ++ [(a, b)]⟩, 2 * g.vars, 0)) := by
  cases ht : trivG a b with
  | some l =>
    have hl : l = 0 ∨ l = a := by
      unfold trivG at ht
      split at ht
      · simp at ht; exact .inl ht.symm
      · split at ht
        · simp at ht; exact .inr ht.symm
        · cases ht
    rcases hl with rfl | rfl
    · exact .inl ⟨rfl, by unfold andHi; rw [ht]⟩
    · exact .inr (.inl ⟨rfl, by unfold andHi; rw [ht]⟩)
  | none =>
    cases hp : placeOf g.as (a, b) with
    | some i => exact .inr (.inr (.inl ⟨rfl, i, rfl, by unfold andHi; rw [ht]; simp only [hp]⟩))
    | none =>
      by_cases hv : g.vars ≥ 2000
      · exact .inr (.inr (.inr (.inl ⟨rfl, rfl, hv, by unfold andHi; rw [ht]; simp only [hp, if_pos hv]⟩)))
      · exact .inr (.inr (.inr (.inr ⟨rfl, rfl, by omega, by unfold andHi; rw [ht]; simp only [hp, if_neg hv]⟩)))

theorem trivG_none {a b : Int} (h : trivG a b = none) (hb : 0 ≤ b) (hab : b ≤ a) : 2 ≤ b ∧ b / 2 < a / 2 := by
  unfold trivG at h
  split at h
  · cases h
  · split at h
    · cases h
    · rename_i h1 h2
      simp only [not_or, not_and, Decidable.not_not] at h1 h2
      obtain ⟨h3, h4⟩ := h1
      obtain ⟨h5, h6⟩ := h2
      refine ⟨by omega, ?_⟩
      by_cases e : a / 2 = b / 2
      · exact absurd (h4 e) h6
      · omega

theorem litB_ge {g : Gr} {l : Int} (h : litB g l = true) : 0 ≤ l := ((litB_iff g l).1 h).2.2.1

theorem right_vars {g : Gr} (h : rightB g = true) : 0 ≤ g.n ∧ g.n ≤ 2000 ∧ g.vars ≤ 2000 ∧ 1 ≤ g.vars := by
  obtain ⟨h1, h2, h3, h4⟩ := (size_iff g).1 (right_size h)
  unfold Gr.vars
  omega

theorem lit_of {g : Gr} (hr : rightB g = true) {l : Int} (h0 : 0 ≤ l) (h1 : l < 2 * g.vars) : litB g l = true := by
  obtain ⟨n0, n1, _, _⟩ := right_vars hr
  refine (litB_iff g l).2 ⟨n0, n1, h0, ?_⟩
  unfold Gr.vars at h1
  omega
theorem lit_lt {g : Gr} {l : Int} (h : litB g l = true) : l < 2 * g.vars := by
  obtain ⟨_, _, h0, h1⟩ := (litB_iff g l).1 h
  unfold Gr.vars
  omega

/-- What And does to a right graph, where it makes something. -/
structure Grows (g h : Gr) (l : Int) (k : Nat) : Prop where
  right : rightB h = true
  lit : litB h l = true
  n : h.n = g.n
  more : ∃ qs : List Pr, h.as = g.as ++ qs ∧ qs.length ≤ k

theorem andHi_grows {g : Gr} {a b : Int} (hr : rightB g = true) (ha : litB g a = true) (hb : litB g b = true) (hab : b ≤ a) (he : (andHi g a b).2.2 = 0) : Grows g (andHi g a b).1 (andHi g a b).2.1 1 := by
  have hb0 := litB_ge hb
  have ha1 := lit_lt ha
  obtain ⟨n0, n1, v1, v2⟩ := right_vars hr
  rcases andHi_cases g a b with ⟨ht, h⟩ | ⟨ht, h⟩ | ⟨ht, i, hp, h⟩ | ⟨ht, hp, hv, h⟩ | ⟨ht, hp, hv, h⟩
  · rw [h]
    exact ⟨hr, lit_of hr (by simp) (by simp; omega), rfl, [], by simp, by simp⟩
  · rw [h]
    exact ⟨hr, ha, rfl, [], by simp, by simp⟩
  · rw [h]
    have hi : i < g.as.length := (List.getElem?_eq_some_iff.1 (placeOf_some hp)).1
    refine ⟨hr, lit_of hr (by simp; omega) ?_, rfl, [], by simp, by simp⟩
    simp only
    unfold Gr.vars
    omega
  · rw [h] at he
    cases he
  · rw [h]
    obtain ⟨t1, t2⟩ := trivG_none ht hb0 hab
    obtain ⟨⟨s1, s2, s3, s4⟩, hall, hnd⟩ := (right_iff g).1 hr
    have hr' : rightB ⟨g.n, g.as ++ [(a, b)]⟩ = true := by
      refine (right_iff _).2 ⟨⟨s1, s2, ?_, ?_⟩, ?_, ?_⟩
      · simp only [List.length_append, List.length_singleton]
        unfold Gr.vars at hv
        omega
      · simp only [List.length_append, List.length_singleton]
        unfold Gr.vars at hv
        omega
      · intro j p hj
        by_cases hjl : j < g.as.length
        · rw [List.getElem?_append_left hjl] at hj
          exact hall j p hj
        · rw [List.getElem?_append_right (by omega)] at hj
          have h0 : j - g.as.length = 0 := by
            rcases Nat.eq_zero_or_pos (j - g.as.length) with h | h
            · exact h
            · rw [List.getElem?_eq_none (by simp; omega)] at hj
              cases hj
          rw [h0] at hj
          simp at hj
          subst hj
          have : j = g.as.length := by omega
          subst this
          refine decide_eq_true (p := 2 ≤ b ∧ b / 2 < a / 2 ∧ a / 2 < g.n + 1 + (g.as.length : Int)) ⟨t1, t2, ?_⟩
          unfold Gr.vars at ha1
          omega
      · refine List.nodup_append.2 ⟨hnd, by simp, fun x hx y hy => ?_⟩
        simp at hy
        subst hy
        rintro rfl
        exact placeOf_none.1 hp hx
    refine ⟨hr', lit_of hr' (by simp; omega) ?_, rfl, [(a, b)], rfl, by simp⟩
    simp [Gr.vars]
    omega

theorem max_min {g : Gr} {a b : Int} (ha : litB g a = true) (hb : litB g b = true) : litB g (max a b) = true ∧ litB g (min a b) = true ∧ min a b ≤ max a b := by
  rcases Int.le_total a b with h | h
  · rw [Int.max_eq_right h, Int.min_eq_left h]; exact ⟨hb, ha, h⟩
  · rw [Int.max_eq_left h, Int.min_eq_right h]; exact ⟨ha, hb, h⟩

theorem andG_grows {g : Gr} {a b : Int} (he : (andG g a b).2.2 = 0) : Grows g (andG g a b).1 (andG g a b).2.1 1 := by
  obtain ⟨hr, ha, hb, h⟩ := andG_zero he
  obtain ⟨h1, h2, h3⟩ := max_min ha hb
  rw [h] at he ⊢
  exact andHi_grows hr h1 h2 h3 he

theorem flip_lit {g : Gr} {l : Int} (h : litB g l = true) : litB g (flip l) = true := by
  obtain ⟨h1, h2, h3, h4⟩ := (litB_iff g l).1 h
  obtain ⟨f1, f2, f3⟩ := flip_range h3
  exact (litB_iff g _).2 ⟨h1, h2, f1, by omega⟩

/-- A literal, turned where the number is one. -/
def turnBy (a t : Int) : Int := if t = 1 then flip a else a

def madeStep (s : Gr × Int) (x : Int) : Gr × Int :=
  let many := 2 * s.1.vars
  let r := andG s.1 (x % many) (x / many % many)
  if r.2.2 = 0 then (r.1, turnBy r.2.1 (x / 7 % 2)) else s

def madeG (n : Int) (xs : List Int) : Gr × Int := (xs.take 40).foldl madeStep (⟨n, []⟩, 1)

structure MInv (n : Int) (k : Nat) (s : Gr × Int) : Prop where
  ok : GOk s.1
  right : rightB s.1 = true
  lit : litB s.1 s.2 = true
  n : s.1.n = n
  len : s.1.as.length ≤ k

theorem MInv.step {n : Int} {k : Nat} {s : Gr × Int} (h : MInv n k s) (x : Int) : MInv n (k + 1) (madeStep s x) := by
  unfold madeStep
  simp only
  split
  · rename_i he
    have hg := andG_grows he
    obtain ⟨qs, h1, h2⟩ := hg.more
    refine ⟨andG_ok h.ok _ _, hg.right, ?_, hg.n.trans h.n, ?_⟩
    · unfold turnBy
      split
      · exact flip_lit hg.lit
      · exact hg.lit
    · simp only
      rw [h1, List.length_append]
      have := h.len
      omega
  · exact ⟨h.ok, h.right, h.lit, h.n, Nat.le_succ_of_le h.len⟩

theorem MInv.begin_ {n : Int} (h0 : 0 ≤ n) (h1 : n ≤ 1900) : MInv n 0 (⟨n, []⟩, 1) := by
  have hr : rightB ⟨n, []⟩ = true := (right_iff _).2 ⟨⟨h0, by simp only; omega, by simp, by simp; omega⟩, by simp, by simp⟩
  exact ⟨⟨(wf_iff n).2 (by omega), by simp, by simp⟩, hr, lit_of hr (by simp) (by simp [Gr.vars]; omega), rfl, by simp⟩

/-- The state behind so many numbers. -/
def madeAt (n : Int) (xs : List Int) (k : Nat) : Gr × Int := (xs.take k).foldl madeStep (⟨n, []⟩, 1)

theorem madeAt_zero (n : Int) (xs : List Int) : madeAt n xs 0 = (⟨n, []⟩, 1) := rfl
theorem madeAt_succ {n : Int} {xs : List Int} {k : Nat} {x : Int} (h : xs[k]? = some x) : madeAt n xs (k + 1) = madeStep (madeAt n xs k) x := by
  unfold madeAt
  rw [List.take_add_one, h]
  simp
theorem madeAt_inv {n : Int} (h0 : 0 ≤ n) (h1 : n ≤ 1900) (xs : List Int) : ∀ k : Nat, MInv n k (madeAt n xs k)
  | 0 => MInv.begin_ h0 h1
  | k + 1 => by
    cases h : xs[k]? with
    | some x => rw [madeAt_succ h]; exact (madeAt_inv h0 h1 xs k).step x
    | none =>
      have e : madeAt n xs (k + 1) = madeAt n xs k := by
        unfold madeAt
        rw [List.take_add_one, h]
        simp
      have := madeAt_inv h0 h1 xs k
      rw [e]
      exact ⟨this.ok, this.right, this.lit, this.n, Nat.le_succ_of_le this.len⟩
theorem madeG_inv {n : Int} (h0 : 0 ≤ n) (h1 : n ≤ 1900) (xs : List Int) : MInv n 40 (madeG n xs) := madeAt_inv h0 h1 xs 40
end Go.Proofs.Ytbdhkagcbncefaa

namespace Go.Proofs.Ytbdhkagcbncefaa

theorem placeOf_append {ps qs : List Pr} {p : Pr} {i : Nat} (h : placeOf ps p = some i) : placeOf (ps ++ qs) p = some i := by
  induction ps generalizing i with
  | nil => simp [placeOf] at h
  | cons q ps ih =>
    rw [List.cons_append]
    unfold placeOf at h ⊢
    split at h
    · rename_i e
      rw [if_pos e]
      exact h
    · rename_i e
      rw [if_neg e]
      cases hq : placeOf ps p with
      | none => rw [hq] at h; cases h
      | some j =>
        rw [hq] at h
        rw [ih hq]
        exact h

theorem placeOf_snoc {ps qs : List Pr} {p : Pr} (h : placeOf ps p = none) : placeOf (ps ++ p :: qs) p = some ps.length := by
  induction ps with
  | nil => simp [placeOf]
  | cons q ps ih =>
    rw [List.cons_append]
    unfold placeOf at h ⊢
    split at h
    · cases h
    · rename_i e
      rw [if_neg e]
      rw [Option.map_eq_none_iff] at h
      rw [ih h]
      simp

/-- h goes on where g ends. -/
def Ext (g h : Gr) : Prop := h.n = g.n ∧ ∃ qs : List Pr, h.as = g.as ++ qs

theorem Ext.refl (g : Gr) : Ext g g := ⟨rfl, [], by simp⟩
theorem Ext.trans {g h i : Gr} (h1 : Ext g h) (h2 : Ext h i) : Ext g i := by
  obtain ⟨e1, q1, f1⟩ := h1
  obtain ⟨e2, q2, f2⟩ := h2
  exact ⟨e2.trans e1, q1 ++ q2, by rw [f2, f1, List.append_assoc]⟩
theorem Grows.ext {g h : Gr} {l : Int} {k : Nat} (h1 : Grows g h l k) : Ext g h := by
  obtain ⟨qs, e, _⟩ := h1.more
  exact ⟨h1.n, qs, e⟩
theorem Ext.lit {g h : Gr} (h1 : Ext g h) {l : Int} (hl : litB g l = true) : litB h l = true := by
  obtain ⟨e, q, f⟩ := h1
  obtain ⟨a, b, c, d⟩ := (litB_iff g l).1 hl
  refine (litB_iff h l).2 ⟨by omega, by omega, c, ?_⟩
  rw [f, List.length_append]
  omega

theorem andHi_again {g h : Gr} {a b : Int} (he : (andHi g a b).2.2 = 0) (hx : Ext (andHi g a b).1 h) : andHi h a b = (h, (andHi g a b).2.1, 0) := by
  obtain ⟨e, qs, f⟩ := hx
  rcases andHi_cases g a b with ⟨ht, k⟩ | ⟨ht, k⟩ | ⟨ht, i, hp, k⟩ | ⟨ht, hp, hv, k⟩ | ⟨ht, hp, hv, k⟩
  · rw [k]
    unfold andHi
    rw [ht]
  · rw [k]
    unfold andHi
    rw [ht]
  · rw [k] at e f ⊢
    unfold andHi
    rw [ht]
    simp only
    rw [f, placeOf_append hp]
    simp only
    rw [e]
  · rw [k] at he
    cases he
  · rw [k] at e f ⊢
    unfold andHi
    rw [ht]
    simp only
    simp only at f e
    rw [f, List.append_assoc, List.singleton_append, placeOf_snoc hp]
    simp only
    rw [e]
    rfl

/-- And of the same two, over any graph that goes on from what And made: nothing new, the same literal. -/
theorem andG_again {g h : Gr} {a b : Int} (he : (andG g a b).2.2 = 0) (hr : rightB h = true) (hx : Ext (andG g a b).1 h) : andG h a b = (h, (andG g a b).2.1, 0) ∧ andG h b a = (h, (andG g a b).2.1, 0) := by
  obtain ⟨_, ha, hb, e⟩ := andG_zero he
  have hg := (andG_grows he).ext.trans hx
  have la := hg.lit ha
  have lb := hg.lit hb
  rw [e] at he hx ⊢
  have hh := andHi_again he hx
  constructor
  · unfold andG
    rw [hr, la, lb]
    exact hh
  · unfold andG
    rw [hr, la, lb, Int.max_comm, Int.min_comm]
    exact hh

/-- There is room: And makes something of right literals. -/
theorem andG_ok_of {g : Gr} {a b : Int} (hr : rightB g = true) (ha : litB g a = true) (hb : litB g b = true) (hv : g.vars < 2000) : (andG g a b).2.2 = 0 := by
  unfold andG
  rw [hr, ha, hb]
  simp only [Bool.and_self, if_true]
  rcases andHi_cases g (max a b) (min a b) with ⟨_, k⟩ | ⟨_, k⟩ | ⟨_, i, _, k⟩ | ⟨_, _, hv', k⟩ | ⟨_, _, _, k⟩
  · rw [k]
  · rw [k]
  · rw [k]
  · omega
  · rw [k]

theorem Grows.vars {g h : Gr} {l : Int} {k : Nat} (h1 : Grows g h l k) : h.vars ≤ g.vars + k := by
  obtain ⟨qs, e, hq⟩ := h1.more
  unfold Gr.vars
  rw [h1.n, e, List.length_append]
  omega

theorem orG_eq {g : Gr} {a b : Int} (ha : 0 ≤ a) (hb : 0 ≤ b) (he : (andG g (flip a) (flip b)).2.2 = 0) : orG g a b = ((andG g (flip a) (flip b)).1, flip (andG g (flip a) (flip b)).2.1, 0) := by
  unfold orG
  rw [if_neg (by omega)]
  simp only [he, if_true]

/-- The chosen one of two right literals: what it makes, and that made again it is the same. -/
structure Chosen (g : Gr) (k a b : Int) (h : Gr) (l : Int) : Prop where
  is : iteG g k a b = (h, l, 0)
  grows : Grows g h l 3
  again : iteG h k a b = (h, l, 0)

theorem ite_chosen {g : Gr} {k a b : Int} (hr : rightB g = true) (hk : litB g k = true) (ha : litB g a = true) (hb : litB g b = true) (hv : g.vars < 1990) : ∃ h l, Chosen g k a b h l := by
  have k0 := litB_ge hk
  -- the first gate
  have e1 := andG_ok_of hr hk ha (by omega)
  have g1 := andG_grows e1
  have v1 := g1.vars
  -- the second one
  have e2 := andG_ok_of g1.right (flip_lit (g1.ext.lit hk)) (g1.ext.lit hb) (by omega)
  have g2 := andG_grows e2
  have v2 := g2.vars
  -- the third one
  have l1 := g2.ext.lit g1.lit
  have l2 := g2.lit
  have e3 := andG_ok_of g2.right (flip_lit l1) (flip_lit l2) (by omega)
  have g3 := andG_grows e3
  have x23 := g2.ext.trans g3.ext
  have o3 := orG_eq (litB_ge l1) (litB_ge l2) e3
  have a1 := (andG_again e1 g3.right x23).1
  have a2 := (andG_again e2 g3.right g3.ext).1
  have a3 := (andG_again e3 g3.right (Ext.refl _)).1
  refine ⟨_, _, ?_, ⟨g3.right, flip_lit g3.lit, g3.n.trans (g2.n.trans g1.n), ?_⟩, ?_⟩
  · unfold iteG
    rw [if_neg (by omega)]
    simp only [e1, e2, if_true]
    rw [o3]
  · obtain ⟨q1, f1, m1⟩ := g1.more
    obtain ⟨q2, f2, m2⟩ := g2.more
    obtain ⟨q3, f3, m3⟩ := g3.more
    exact ⟨q1 ++ (q2 ++ q3), by rw [f3, f2, f1]; simp, by simp; omega⟩
  · unfold iteG
    rw [if_neg (by omega)]
    simp only [a1, if_true]
    rw [a2]
    simp only [if_true]
    unfold orG
    rw [if_neg (by have := litB_ge l1; have := litB_ge l2; omega)]
    simp only [a3, if_true]
end Go.Proofs.Ytbdhkagcbncefaa

namespace Go.Proofs.Ytbdhkagcbncefaa
open Go.RowKit Go.Maps

/-- The numbers of a list, as cells. -/
def u16s (xs : List Int) : List Value := xs.map (.int .u16 ·)
/-- Numbers of 16 bits. -/
def U16 (xs : List Int) : Prop := ∀ x ∈ xs, 0 ≤ x ∧ x ≤ 65535

theorem u16s_at {xs : List Int} {i : Nat} {x : Int} (h : xs[i]? = some x) : (u16s xs)[i]? = some (.int .u16 x) := by
  unfold u16s
  rw [List.getElem?_map, h]
  rfl

theorem xor_nought (a : Int) (h0 : 0 ≤ a) (h1 : a ≤ 9223372036854775807) : bits .xor .i64 a 0 = a := by
  have := xor_i64 a.toNat 0 (by omega) (by omega)
  simp at this
  rwa [Int.max_eq_left h0] at this

theorem xor_turn (a t : Int) (h0 : 0 ≤ a) (h1 : a ≤ 9223372036854775807) (ht : t = 0 ∨ t = 1) : bits .xor .i64 a t = turnBy a t := by
  rcases ht with rfl | rfl
  · rw [xor_nought a h0 h1]
    rfl
  · rw [xor_flip a h0 h1]
    rfl

/-- What stands behind so many rounds. -/
structure MSt (w wr : World) (n : Int) (xs : List Int) (k : Nat) (A : Option Addr) (c : Nat) : Prop where
  below : Below w.heap.size w wr
  big : w.heap.size + 2 ≤ wr.heap.size
  cap : (madeAt n xs k).1.as.length ≤ c
  res : Blk wr w.heap.size 24 #[.int .i64 0, .slice none 0 0]
  g : Blk wr (w.heap.size + 1) 24 #[.int .i64 (madeAt n xs k).1.n, .slice A (madeAt n xs k).1.as.length c]
  prs : PrsQ wr (w.heap.size + 2 ≤ ·) A (madeAt n xs k).1.as

theorem MSt.step {w wr wr' : World} {n : Int} {xs : List Int} {k : Nat} {A : Option Addr} {c : Nat} (h : MSt w wr n xs k A c) (hb : Below wr.heap.size wr wr') : MSt w wr' n xs k A c :=
  ⟨below2 h.below h.below.size hb, Nat.le_trans h.big hb.size, h.cap, h.res.below hb h.res.lt, h.g.below hb h.g.lt, h.prs.below hb⟩

/-- A round that makes nothing. -/
theorem MSt.again {w wr : World} {n : Int} {xs : List Int} {k : Nat} {A : Option Addr} {c : Nat} (h : MSt w wr n xs k A c) (e : madeAt n xs (k + 1) = madeAt n xs k) : MSt w wr n xs (k + 1) A c :=
  ⟨h.below, h.big, by rw [e]; exact h.cap, h.res, by rw [e]; exact h.g, by rw [e]; exact h.prs⟩

/-- A round that makes something. -/
theorem MSt.put {w wr : World} {n : Int} {xs : List Int} {k : Nat} {A A' : Option Addr} {c c' : Nat} {g : Gr} (h : MSt w wr n xs k A c) (e : (madeAt n xs (k + 1)).1 = g) (hc : g.as.length ≤ c') (hp : PrsQ wr (w.heap.size + 2 ≤ ·) A' g.as) :
    MSt w ((wr.setCell ⟨w.heap.size + 1, 0, none⟩ (.int .i64 g.n)).setCell ⟨w.heap.size + 1, 1, none⟩ (.slice A' g.as.length c')) n xs (k + 1) A' c' := by
  refine ⟨(h.below.setCell (p := ⟨w.heap.size + 1, 0, none⟩) (by simp) _).setCell (p := ⟨w.heap.size + 1, 1, none⟩) (by simp) _, by simpa [World.setCell] using h.big, by rw [e]; exact hc, ?_, ?_, ?_⟩
  · exact (h.res.far (p := ⟨w.heap.size + 1, 0, none⟩) (by simp) _).far (p := ⟨w.heap.size + 1, 1, none⟩) (by simp) _
  · have := (h.g.set_ 0 (.int .i64 g.n)).set_ 1 (.slice A' g.as.length c')
    rw [e]
    exact this
  · rw [e]
    exact (hp.setCell (fun b hb => by omega) _).setCell (fun b hb => by omega) _

theorem setCell2_size (w : World) (p q : Addr) (x y : Value) : ((w.setCell p x).setCell q y).heap.size = w.heap.size := by simp [World.setCell]

/-- The call hands back the graph and the literal. -/
def RetM (w : World) (r : Gr × Int) (e : Ending) (w' : World) : Prop :=
  ∃ A c, e = .returned (.tuple #[.agg #[.int .i64 r.1.n, .slice A r.1.as.length c], .int .i64 r.2]) ∧ r.1.as.length ≤ c ∧ Prs w' w'.heap.size A r.1.as ∧ Below w.heap.size w w'

theorem MSt.ret {w wr : World} {n : Int} {xs : List Int} {k : Nat} {A : Option Addr} {c : Nat} (h : MSt w wr n xs k A c) (x y : Value) :
    RetM w (madeAt n xs k) (.returned (.tuple #[.agg #[.int .i64 (madeAt n xs k).1.n, .slice A (madeAt n xs k).1.as.length c], .int .i64 (madeAt n xs k).2])) ((wr.setCell ⟨w.heap.size, 0, none⟩ x).setCell ⟨w.heap.size, 1, none⟩ y) :=
  ⟨A, c, rfl, h.cap, ((h.prs.setCell (fun b hb => by omega) x).setCell (fun b hb => by omega) y).prs, (h.below.setCell (p := ⟨w.heap.size, 0, none⟩) (Nat.le_refl _) x).setCell (p := ⟨w.heap.size, 1, none⟩) (Nat.le_refl _) y⟩

set_option maxRecDepth 100000 in
set_option maxHeartbeats 2000000 in
theorem made_any (n : Int) (xs : List Int) (A : Option Addr) (c : Nat) (w : World) (h0 : 0 ≤ n) (h1 : n ≤ 1900) (hx : U16 xs) (hl : xs.length ≤ 8796093022208 * 8) (hp : Vals w w.heap.size A (u16s xs)) :
    Calls Try.prog 35 #[.int .i64 n, .slice A xs.length c] w (RetM w (madeG n xs)) := by
  go_enter Try.func35, Try.ntmps35
  go_wp2_with fail
  go_loopw [7, 8] (fun s i wr => ∃ (k : Nat) (B : Option Addr) (d : Nat), k ≤ 40 ∧ k ≤ xs.length ∧ s = .int .i64 (madeAt n xs k).2 ∧ i = .int .i64 k ∧ MSt w wr n xs k B d) (fun _ i _ => 40 - (intOf i).toNat)
  case atStart =>
    have hs : (w.alloc (.cells #[.int .i64 0, .slice none 0 0] 24)).heap.size = w.heap.size + 1 := by simp
    have hn := Blk.new (w.alloc (.cells #[.int .i64 0, .slice none 0 0] 24)) 24 #[.int .i64 n, .slice none 0 0]
    rw [hs] at hn
    exact ⟨0, none, 0, by omega, by omega, rfl, rfl, ((Below.refl _ _).alloc (Nat.le_refl _) _).alloc (by simp) _, by simp, Nat.le_refl _, (Blk.new w _ _).alloc _, hn, PrsQ.nil⟩
  case round =>
    obtain ⟨k, B, d, hk, hkl, rfl, rfl, hm⟩ := hrel
    have hi := madeAt_inv h0 h1 xs k
    have hn0 : 0 ≤ (madeAt n xs k).1.n := by rw [hi.n]; exact h0
    have hn1 : (madeAt n xs k).1.n ≤ 1900 := by rw [hi.n]; exact h1
    have hll : (madeAt n xs k).1.as.length ≤ 40 := Nat.le_trans hi.len hk
    have HM := Lib.hid hm
    have HP := Lib.hid hp
    have HI := Lib.hid hi
    have HX := Lib.hid hx
    have g0 : wr.cell? ⟨w.heap.size + 1, 0, none⟩ = some (.int .i64 (madeAt n xs k).1.n) := HM.out.g.cell 0
    have g1 : wr.cell? ⟨w.heap.size + 1, 1, none⟩ = some (.slice B (madeAt n xs k).1.as.length d) := HM.out.g.cell 1
    have d0 : wr.cell? ⟨w.heap.size, 0, none⟩ = some (.int .i64 0) := HM.out.res.cell 0
    have d1 : wr.cell? ⟨w.heap.size, 1, none⟩ = some (.slice none 0 0) := HM.out.res.cell 1
    have f0 := HM.out.res.frozen 0
    have f1 := HM.out.res.frozen 1
    clear hm hp hi hx
    by_cases hlt : k < xs.length
    · by_cases h40 : k < 40
      · have h40' : (k : Int) < 40 := by omega
        obtain ⟨x, hxk⟩ : ∃ x, xs[k]? = some x := ⟨_, List.getElem?_eq_getElem hlt⟩
        obtain ⟨x0, x1⟩ := HX.out x (List.mem_of_getElem? hxk)
        have HXK := Lib.hid hxk
        clear hxk
        go_wp2_with fail
        refine (rvars_any _ _ _ _ _ hn0 (by omega) (by omega)).mono ?_
        rintro e w2 ⟨rfl, hb2⟩
        have HM2 := Lib.hid (HM.out.step hb2)
        clear g0 g1 d0 d1 f0 f1 hb2
        have g0 : w2.cell? ⟨w.heap.size + 1, 0, none⟩ = some (.int .i64 (madeAt n xs k).1.n) := HM2.out.g.cell 0
        have g1 : w2.cell? ⟨w.heap.size + 1, 1, none⟩ = some (.slice B (madeAt n xs k).1.as.length d) := HM2.out.g.cell 1
        obtain ⟨b', o', rfl, hlb, l0⟩ := (HP.out.below HM2.out.below) k _ (u16s_at HXK.out)
        have hlt' : (k : Int) < (xs.length : Int) := by omega
        have hmz : ((2 * ((madeAt n xs k).1.n + 1 + ((madeAt n xs k).1.as.length : Int))) == 0) = false := by simp; omega
        have hM0 : 0 < 2 * ((madeAt n xs k).1.n + 1 + ((madeAt n xs k).1.as.length : Int)) := by omega
        have hM1 : 2 * ((madeAt n xs k).1.n + 1 + ((madeAt n xs k).1.as.length : Int)) ≤ 4000 := by omega
        have hxm : (x / (2 * ((madeAt n xs k).1.n + 1 + ((madeAt n xs k).1.as.length : Int)))).tmod (2 * ((madeAt n xs k).1.n + 1 + ((madeAt n xs k).1.as.length : Int))) = x / (2 * ((madeAt n xs k).1.n + 1 + ((madeAt n xs k).1.as.length : Int))) % (2 * ((madeAt n xs k).1.n + 1 + ((madeAt n xs k).1.as.length : Int))) :=
          Int.tmod_eq_emod_of_nonneg (Int.ediv_nonneg x0 (by omega))
        have hb1 := Int.emod_lt_of_pos x hM0
        have hb2 := Int.emod_lt_of_pos (x / (2 * ((madeAt n xs k).1.n + 1 + ((madeAt n xs k).1.as.length : Int)))) hM0
        have HR : Hid (∀ w0 : World, Below w2.heap.size w2 w0 → w2.heap.size ≤ w0.heap.size → Calls Try.prog 69 #[.agg #[.int .i64 (madeAt n xs k).1.n, .slice B (madeAt n xs k).1.as.length d], .int .i64 (x % (2 * ((madeAt n xs k).1.n + 1 + ((madeAt n xs k).1.as.length : Int)))), .int .i64 (x / (2 * ((madeAt n xs k).1.n + 1 + ((madeAt n xs k).1.as.length : Int))) % (2 * ((madeAt n xs k).1.n + 1 + ((madeAt n xs k).1.as.length : Int))))] w0 (RetG w0 (w.heap.size + 2 ≤ ·) (andG (madeAt n xs k).1 (x % (2 * ((madeAt n xs k).1.n + 1 + ((madeAt n xs k).1.as.length : Int)))) (x / (2 * ((madeAt n xs k).1.n + 1 + ((madeAt n xs k).1.as.length : Int))) % (2 * ((madeAt n xs k).1.n + 1 + ((madeAt n xs k).1.as.length : Int))))))) :=
          fun w0 h0 _ => rand_any (madeAt n xs k).1 _ _ B d w0 _ HI.out.ok (by omega) (by omega) HM2.out.cap (HM2.out.step h0).prs
        obtain ⟨r, hr⟩ : ∃ r, r = andG (madeAt n xs k).1 (x % (2 * ((madeAt n xs k).1.n + 1 + ((madeAt n xs k).1.as.length : Int)))) (x / (2 * ((madeAt n xs k).1.n + 1 + ((madeAt n xs k).1.as.length : Int))) % (2 * ((madeAt n xs k).1.n + 1 + ((madeAt n xs k).1.as.length : Int)))) := ⟨_, rfl⟩
        rw [← hr] at HR
        have hrl : 0 ≤ r.2.1 ∧ r.2.1 ≤ 4001 := by rw [hr]; exact andG_lit _ _ _
        have HRE := Lib.hid hr
        clear hr hb1 hb2
        go_wp2_with fail
        go_quiet (fail)
        clear hxm hmz
        go_wp2_with fail
        refine (HR.out _ (below_drewN (Below.refl _ _) _) (Nat.le_refl _)).mono ?_
        rintro e w3 ⟨B3, d3, rfl, hc3, hp3, hb3⟩
        have hb23 : Below w2.heap.size w2 w3 := below2 (below_drewN (Below.refl w2.heap.size w2) _) (Nat.le_refl _) hb3
        have hq3 : PrsQ w3 (w.heap.size + 2 ≤ ·) B3 r.1.as := hp3.imp fun b h _ => by
          rcases h with ⟨h, _⟩ | h
          · exact h
          · exact Nat.le_trans HM2.out.big h
        have HM3 := Lib.hid ((HM2.out.step hb23).step ((Below.refl w3.heap.size w3).alloc (Nat.le_refl _) (.cells #[.int .i64 r.1.n, .slice B3 r.1.as.length d3] 24)))
        have HQ3 := Lib.hid (hq3.alloc (.cells #[.int .i64 r.1.n, .slice B3 r.1.as.length d3] 24))
        have HC3 := Lib.hid hc3
        clear hb3 hp3 hb23 hq3 hc3 g0 g1 l0 HR
        obtain ⟨b4, o4, e4, _, l0⟩ := (HP.out.below HM3.out.below) k _ (u16s_at HXK.out)
        injection e4 with e4
        injection e4 with e4 e5
        subst e4 e5
        by_cases hz : r.2.2 = 0
        · have hz' : (r.2.2 == 0) = true := by simpa using hz
          have HS : Hid (madeAt n xs (k + 1) = (r.1, turnBy r.2.1 (x / 7 % 2))) := by
            show madeAt n xs (k + 1) = _
            rw [madeAt_succ HXK.out]
            unfold madeStep
            simp only
            unfold Gr.vars
            rw [← HRE.out, if_pos hz]
          have HX7 : Hid (bits .xor .i64 r.2.1 (x / 7 % 2) = turnBy r.2.1 (x / 7 % 2)) := xor_turn _ _ hrl.1 (by omega) (by omega)
          have y0 : (w3.alloc (.cells #[.int .i64 r.1.n, .slice B3 r.1.as.length d3] 24)).cell? ⟨w3.heap.size, 0, none⟩ = some (.int .i64 r.1.n) := (Blk.new w3 _ _).cell 0
          have y1 : (w3.alloc (.cells #[.int .i64 r.1.n, .slice B3 r.1.as.length d3] 24)).cell? ⟨w3.heap.size, 1, none⟩ = some (.slice B3 r.1.as.length d3) := (Blk.new w3 _ _).cell 1
          have g0 : (w3.alloc (.cells #[.int .i64 r.1.n, .slice B3 r.1.as.length d3] 24)).cell? ⟨w.heap.size + 1, 0, none⟩ = some (.int .i64 (madeAt n xs k).1.n) := HM3.out.g.cell 0
          have g1 : (w3.alloc (.cells #[.int .i64 r.1.n, .slice B3 r.1.as.length d3] 24)).cell? ⟨w.heap.size + 1, 1, none⟩ = some (.slice B (madeAt n xs k).1.as.length d) := HM3.out.g.cell 1
          have f0 := HM3.out.g.frozen 0
          have f1 := HM3.out.g.frozen 1
          clear hz
          go_wp2_with fail
          go_region
          all_goals go_wp2_with fail
          all_goals go_roundw
          case rel => exact ⟨k + 1, B3, d3, by omega, by omega, by rw [HX7.out, HS.out], by go_num, (HM3.out.put (by rw [HS.out]) HC3.out HQ3.out).step (Below.refl _ _).drew⟩
          case measure => simp [intOf]; omega
        · have hz' : (r.2.2 == 0) = false := by simpa using hz
          have HS : Hid (madeAt n xs (k + 1) = madeAt n xs k) := by
            show madeAt n xs (k + 1) = _
            rw [madeAt_succ HXK.out]
            unfold madeStep
            simp only
            unfold Gr.vars
            rw [← HRE.out, if_neg hz]
          clear hz
          go_wp2_with fail
          go_roundw
          case rel => exact ⟨k + 1, B, d, by omega, by omega, by rw [HS.out], by go_num, HM3.out.again HS.out⟩
          case measure => simp [intOf]; omega
      · have h40' : ¬ ((k : Int) < 40) := by omega
        clear h40
        have HE : Hid (madeG n xs = madeAt n xs k) := by
          obtain rfl : k = 40 := by omega
          rfl
        go_wp2_with fail
        refine bodyPost_ret (v := .tuple #[.agg #[.int .i64 (madeAt n xs k).1.n, .slice B (madeAt n xs k).1.as.length d], .int .i64 (madeAt n xs k).2]) (by simp [results, Try.results35, go_sem, d0, d1]) rfl ?_
        rw [HE.out]
        exact HM.out.ret _ _
    · have hlt' : ¬ ((k : Int) < (xs.length : Int)) := by omega
      have HE : Hid (madeG n xs = madeAt n xs k) := by
        obtain rfl : k = xs.length := by omega
        show madeG n xs = _
        unfold madeG madeAt
        rw [List.take_of_length_le (Nat.le_refl _), List.take_of_length_le hk]
      go_wp2_with fail
      refine bodyPost_ret (v := .tuple #[.agg #[.int .i64 (madeAt n xs k).1.n, .slice B (madeAt n xs k).1.as.length d], .int .i64 (madeAt n xs k).2]) (by simp [results, Try.results35, go_sem, d0, d1]) rfl ?_
      rw [HE.out]
      exact HM.out.ret _ _

end Go.Proofs.Ytbdhkagcbncefaa

namespace Go.Proofs.Ytbdhkagcbncefaa
open Go.RowKit Go.Maps

/-- A remainder, where neither is below nought. -/
theorem rem_run {P : Program} (x y : Int) (hx : 0 ≤ x) (hy : 0 < y) (_hl : y ≤ 9223372036854775807) : ∀ w : World, (Op.intDiv .rem .i64 x y).run P w = .ok (.int .i64 (x % y)) w := fun w => by
  have h3 : y ≠ 0 := by omega
  simp [Op.intDiv, go_sem, h3, Int.tmod_eq_emod_of_nonneg hx]

/-- Block b holds the graph. -/
structure GBox (w : World) (b : Nat) (g : Gr) (B : Option Addr) (d : Nat) : Prop where
  blk : Blk w b 24 #[.int .i64 g.n, .slice B g.as.length d]
  cap : g.as.length ≤ d
  prs : Prs w w.heap.size B g.as

section
variable {w w' : World} {b : Nat} {g : Gr} {B : Option Addr} {d : Nat}
theorem GBox.step (h : GBox w b g B d) (hb : Below w.heap.size w w') : GBox w' b g B d := ⟨h.blk.below hb h.blk.lt, h.cap, h.prs.after hb⟩
theorem GBox.alloc (h : GBox w b g B d) (o : Obj) : GBox (w.alloc o) b g B d := h.step ((Below.refl _ _).alloc (Nat.le_refl _) o)
theorem GBox.c0 (h : GBox w b g B d) : w.cell? ⟨b, 0, none⟩ = some (.int .i64 g.n) := h.blk.cell 0
theorem GBox.c1 (h : GBox w b g B d) : w.cell? ⟨b, 1, none⟩ = some (.slice B g.as.length d) := h.blk.cell 1
theorem GBox.new (hc : g.as.length ≤ d) (hp : Prs w w.heap.size B g.as) : GBox (w.alloc (.cells #[.int .i64 g.n, .slice B g.as.length d] 24)) w.heap.size g B d :=
  ⟨Blk.new _ _ _, hc, hp.after ((Below.refl _ _).alloc (Nat.le_refl _) _)⟩
theorem below_alloc {v : World} (h : Below v.heap.size v w) (o : Obj) : Below v.heap.size v (w.alloc o) := below2 h h.size ((Below.refl _ _).alloc (Nat.le_refl _) o)
end
end Go.Proofs.Ytbdhkagcbncefaa
