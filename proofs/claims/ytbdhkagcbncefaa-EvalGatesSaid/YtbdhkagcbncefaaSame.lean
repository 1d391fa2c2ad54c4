/- The document's Same, of two graphs that are the same. -/
import Derived.Test.YtbdhkagcbncefaaRefIte
namespace Go.Proofs.Ytbdhkagcbncefaa
open Go.RowKit Go.Maps

set_option maxHeartbeats 400000 in
theorem same_any (g : Gr) (A B : Option Addr) (c d : Nat) (w : World) (hl : g.as.length ≤ 4000) (hp : Prs w w.heap.size A g.as) (hq : Prs w w.heap.size B g.as) :
    Calls Try.prog 43 #[.agg #[.int .i64 g.n, .slice A g.as.length c], .agg #[.int .i64 g.n, .slice B g.as.length d]] w (Ret w (.bool true)) := by
  have hnot := @not_run Try.prog
  have hqe := @neq_pair
  have hb0 : Below (w.heap.size + 2) ((w.alloc (.cells #[.int .i64 g.n, .slice A g.as.length c] 24)).alloc (.cells #[.int .i64 g.n, .slice B g.as.length d] 24)) ((w.alloc (.cells #[.int .i64 g.n, .slice A g.as.length c] 24)).alloc (.cells #[.int .i64 g.n, .slice B g.as.length d] 24)) := Below.refl _ _
  have hb1 : Below w.heap.size w ((w.alloc (.cells #[.int .i64 g.n, .slice A g.as.length c] 24)).alloc (.cells #[.int .i64 g.n, .slice B g.as.length d] 24)) := ((Below.refl _ _).alloc (Nat.le_refl _) _).alloc (by simp) _
  have G0 : Blk ((w.alloc (.cells #[.int .i64 g.n, .slice A g.as.length c] 24)).alloc (.cells #[.int .i64 g.n, .slice B g.as.length d] 24)) w.heap.size 24 #[.int .i64 g.n, .slice A g.as.length c] := (Blk.new _ _ _).alloc _
  have G1 : Blk ((w.alloc (.cells #[.int .i64 g.n, .slice A g.as.length c] 24)).alloc (.cells #[.int .i64 g.n, .slice B g.as.length d] 24)) (w.heap.size + 1) 24 #[.int .i64 g.n, .slice B g.as.length d] := by
    have := Blk.new (w.alloc (.cells #[.int .i64 g.n, .slice A g.as.length c] 24)) 24 #[.int .i64 g.n, .slice B g.as.length d]
    rw [World.size_alloc] at this
    exact this
  have HG0 := Lib.hid G0
  have HG1 := Lib.hid G1
  have HB1 := Lib.hid hb1
  have hn : (g.n != g.n) = false := by simp
  clear G0 G1 hb1
  go_enter Try.func43, Try.ntmps43
  go_wp2_with fail
  go_loopw [5] (fun s wr => ∃ k : Nat, k ≤ g.as.length ∧ s = .int .i64 k ∧ Below (w.heap.size + 2) ((w.alloc (.cells #[.int .i64 g.n, .slice A g.as.length c] 24)).alloc (.cells #[.int .i64 g.n, .slice B g.as.length d] 24)) wr) (fun s _ => g.as.length - (intOf s).toNat)
  case atStart => exact ⟨0, Nat.zero_le _, rfl, hb0⟩
  case round =>
    obtain ⟨k, hk, rfl, hb⟩ := hrel
    have hbel : Below w.heap.size w wr := HB1.out.trans (hb.mono (by omega))
    have hb0' := HG0.out.below hb (by omega)
    have hb1' := HG1.out.below hb (by omega)
    have c0 : wr.cell? ⟨w.heap.size, 1, none⟩ = some (.slice A g.as.length c) := hb0'.cell 1
    have c1 : wr.cell? ⟨w.heap.size + 1, 1, none⟩ = some (.slice B g.as.length d) := hb1'.cell 1
    by_cases hlt : k < g.as.length
    · obtain ⟨⟨a1, a2⟩, hpk⟩ : ∃ p, g.as[k]? = some p := ⟨_, List.getElem?_eq_getElem hlt⟩
      obtain ⟨b', o', rfl, _, p1, p2⟩ := (hp.below hbel) k _ hpk
      obtain ⟨b2, o2, rfl, _, q1, q2⟩ := (hq.below hbel) k _ hpk
      have hlt' : (k : Int) < (g.as.length : Int) := by omega
      have HB := Lib.hid hb
      have he : (a1 == a1 && a2 == a2) = true := by simp
      clear hp hq hbel hb hpk hb0 hb0' hb1'
      go_wp2_with fail
      go_quiet (fail)
      go_wp2_with fail
      go_roundw
      case rel => exact ⟨k + 1, by omega, by go_num, below_drewN HB.out _⟩
      case measure => simp [intOf]; omega
    · have HB := Lib.hid hbel
      clear hp hq hbel hb hb0 hb0' hb1'
      go_wp2_with fail
      go_ret
      exact ⟨rfl, HB.out⟩
end Go.Proofs.Ytbdhkagcbncefaa
