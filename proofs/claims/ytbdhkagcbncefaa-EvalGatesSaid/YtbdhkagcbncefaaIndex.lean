/- '(*index).make': the map holds each gate at its first place. -/
import Derived.Test.YtbdhkagcbncefaaOnce
namespace Go.Proofs.Ytbdhkagcbncefaa
open Go.RowKit Go.Maps

/-- The index at block b, made. -/
def Made (w w' : World) (b : Nat) (x0 x1 x2 : Value) (A : Option Addr) (c : Nat) (ps : List Pr) : Prop :=
  Blk w' b 96 #[x0, x1, x2, .slice A ps.length c, .map (some w.heap.size)] ∧ w.grownBy w' (some b) ∧
    ∃ D n, w'.ownsMap Try.prog 41 (plainElem Try.prog 3) w.heap.size n D ∧ Idx D ps

/-- What holds at the head of round k. -/
def MkRel (w wr : World) (b : Nat) (x0 x1 x2 : Value) (A : Option Addr) (c : Nat) (ps : List Pr) (k : Nat) : Prop :=
  Blk wr b 96 #[x0, x1, x2, .slice A ps.length c, .map (some w.heap.size)] ∧ w.grownBy wr (some b) ∧
    ∃ D n, wr.ownsMap Try.prog 41 (plainElem Try.prog 3) w.heap.size n D ∧ n ≤ k ∧ Idx D (ps.take k)

theorem grown_alloc {a w : World} {row : Option Nat} (h : a.grownBy w row) (o : Obj) : a.grownBy (w.alloc o) row :=
  ⟨h.os, h.tape, h.output, Nat.le_trans h.size (by simp), fun i hi hne => (Below.heap_alloc w o i (Nat.lt_of_lt_of_le hi h.size)).trans (h.block i hi hne)⟩
theorem _root_.Go.World.grownBy.drew {a w : World} {row : Option Nat} (h : a.grownBy w row) : a.grownBy w.drew row := ⟨h.os, h.tape, h.output, h.size, h.block⟩
/-- A step more, which turns one block that is new. -/
theorem grown_grown {a w w' : World} {row : Option Nat} {g : Nat} (h : a.grownBy w row) (h' : w.grownBy w' (some g)) (hg : a.heap.size ≤ g) : a.grownBy w' row :=
  ⟨h'.os.trans h.os, h'.tape.trans h.tape, h'.output.trans h.output, Nat.le_trans h.size h'.size, fun i hi hne => (h'.block i (Nat.lt_of_lt_of_le hi h.size) (by simp; omega)).trans (h.block i hi hne)⟩

set_option maxHeartbeats 400000 in
theorem make_any (b : Nat) (x0 x1 x2 x4 : Value) (A : Option Addr) (c : Nat) (ps : List Pr) (w : World)
    (hx : Blk w b 96 #[x0, x1, x2, .slice A ps.length c, x4]) (hp : Prs w b A ps) (hok : ∀ p ∈ ps, PrOk p) (hl : ps.length ≤ 2000) :
    Calls Try.prog 100 #[.pointer (some ⟨b, 0, none⟩)] w fun e w' => e = .returned (.tuple #[]) ∧ Made w w' b x0 x1 x2 A c ps := by
  have hmm := @run_makeMap Try.prog
  have hnot := @not_run Try.prog
  have hx1 := hx.alloc (.map #[] 0)
  have c4 := hx1.cell 4
  have f4 := hx1.frozen 4
  have hx2 := hx1.set_ 4 (.map (some w.heap.size))
  have c3 := hx2.cell 3
  simp at c3 c4
  have H0 : MkRel w ((w.alloc (.map #[] 0)).setCell ⟨b, 4, none⟩ (.map (some w.heap.size))) b x0 x1 x2 A c ps 0 :=
    ⟨hx2, ⟨rfl, rfl, rfl, by simp [World.setCell], fun i hi hne => (Below.heap_setCell _ _ _ i (fun e => hne (by rw [e]))).trans (Below.heap_alloc w _ i hi)⟩, .map [], 0,
      (World.ownsMap_made w _ _ _).setCell (by have := hx.lt; simp; omega) _, Nat.le_refl _, by simpa using Idx.nil⟩
  go_enter Try.func100, Try.ntmps100
  go_wp2
  go_loopw [15] (fun i wr => ∃ k : Nat, k ≤ ps.length ∧ i = .int .i64 k ∧ MkRel w wr b x0 x1 x2 A c ps k) (fun i _ => ps.length - (intOf i).toNat)
  case atStart => exact ⟨0, Nat.zero_le _, rfl, H0⟩
  case round =>
    obtain ⟨k, hk, rfl, hr⟩ := hrel
    by_cases hlt : k < ps.length
    · obtain ⟨hb, hg, D, n, hown, hn, hI⟩ := hr
      obtain ⟨⟨a1, a2⟩, hpk⟩ : ∃ p, ps[k]? = some p := ⟨_, List.getElem?_eq_getElem hlt⟩
      have hpok := hok _ (List.mem_of_getElem? hpk)
      obtain ⟨b', o', rfl, hlb, hc1, hc2⟩ := hp k _ hpk
      have hbb : b' < w.heap.size := Nat.lt_trans hlb hx.lt
      have g1 : wr.cell? ⟨b', o' + k * 2, none⟩ = some (.int .i64 a1) := (World.cell?_of_block (hg.block b' hbb (by simp; omega))).trans hc1
      have g2 : wr.cell? ⟨b', o' + k * 2 + 1, none⟩ = some (.int .i64 a2) := (World.cell?_of_block (hg.block b' hbb (by simp; omega))).trans hc2
      have hkey := keyOf_pair hpok
      have hown2 : ((wr.alloc (.cells #[.int .i64 a1, .int .i64 a2] 41)).drew).ownsMap Try.prog 41 (plainElem Try.prog 3) w.heap.size n D := hown.alloc _
      have c4 : (wr.alloc (.cells #[.int .i64 a1, .int .i64 a2] 41)).drew.cell? ⟨b, 4, none⟩ = some (.map (some w.heap.size)) := ((hb.alloc _).cell 4).trans rfl
      have c5 : (wr.alloc (.cells #[.int .i64 a1, .int .i64 a2] 41)).drew.drew.cell? ⟨b, 4, none⟩ = some (.map (some w.heap.size)) := ((hb.alloc _).cell 4).trans rfl
      obtain ⟨v, pl, hrun, hv⟩ := hown2.look_ok pairLaw Try.underlying94 (zeroInt _) (plainElem_int Try.underlying3 (by decide)) hkey
      obtain ⟨vi, rfl, _, _⟩ := plainElem_int_inv Try.underlying3 hv
      have htk : ps.take (k + 1) = ps.take k ++ [(a1, a2)] := by rw [List.take_add_one, hpk]; rfl
      have hkl : (ps.take k).length = k := by simp; omega
      have hmem := hI.mem _ hpok
      by_cases hin : (a1, a2) ∈ ps.take k
      · rw [hmem.2 hin] at hrun
        have HF : Hid (MkRel w ((wr.alloc (.cells #[.int .i64 a1, .int .i64 a2] 41)).drew) b x0 x1 x2 (some ⟨b', o', none⟩) c ps (k + 1)) :=
          ⟨(hb.alloc _).drew, (grown_alloc hg _).drew, D, n, hown2, by omega, by rw [htk]; exact hI.keep hin⟩
        clear hb hown hkey hown2 hv hmem hok hI hx hx1 hx2 hpk hp htk hpok hkl hg hin f4 H0
        go_wp2_with fail
        go_region
        all_goals go_wp2_with fail
        all_goals go_roundw
        case rel => exact ⟨k + 1, by omega, by go_num, HF.out⟩
        case measure => simp [intOf]; omega
      · have hno : Maps.has D (kl (a1, a2)) = false := by
          cases e : Maps.has D (kl (a1, a2))
          · rfl
          · exact absurd (hmem.1 e) hin
        rw [hno] at hrun
        have hown3 : ((wr.alloc (.cells #[.int .i64 a1, .int .i64 a2] 41)).drew.drew).ownsMap Try.prog 41 (plainElem Try.prog 3) w.heap.size n D := hown2
        obtain ⟨w3, hrun3, hown4, ht3⟩ := hown3.store pairLaw Try.underlying94 (by unfold maxLen; omega) (val := .int .i64 k) hkey (plainElem_int Try.underlying3 (by simp [Lit.wf, IntKind.min, IntKind.max, IntKind.signed, IntKind.bits]; omega))
        have HF : Hid (MkRel w w3 b x0 x1 x2 (some ⟨b', o', none⟩) c ps (k + 1)) := by
          have hbm : b ≠ w.heap.size := by have := hx.lt; omega
          refine ⟨(Blk.drew (Blk.drew (hb.alloc _))).grown ht3.grown (fun e => hbm (by simpa using e)), grown_grown (grown_alloc hg _).drew.drew ht3.grown (Nat.le_refl _), _, n + 1, hown4, by omega, ?_⟩
          rw [htk]
          have := hI.put hpok hin
          rw [hkl] at this
          exact this
        clear hb hown hkey hown2 hown3 hown4 hv hmem hok hI hx hx1 hx2 hpk hp htk hpok hkl hg hin f4 H0 ht3 hno
        go_wp2_with fail
        go_region
        all_goals go_wp2_with fail
        all_goals go_region
        all_goals go_wp2_with fail
        all_goals go_roundw
        case rel => exact ⟨k + 1, by omega, by go_num, HF.out⟩
        case measure => simp [intOf]; omega
    · have hke : k = ps.length := by omega
      have HF : Hid (Made w wr b x0 x1 x2 A c ps) := by
        obtain ⟨hb, hg, D, n, hown, hn, hI⟩ := hr
        exact ⟨hb, hg, D, n, hown, by rw [hke, List.take_length] at hI; exact hI⟩
      clear hr hx hx1 hx2 hp hok H0 hke
      go_wp2_with fail
      go_end0
      exact ⟨rfl, HF.out⟩
end Go.Proofs.Ytbdhkagcbncefaa
