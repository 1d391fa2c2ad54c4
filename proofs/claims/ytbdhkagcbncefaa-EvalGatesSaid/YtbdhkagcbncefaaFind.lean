/- sync.Once.Do over the index; '(*index).many', '(*index).find'. -/
import Derived.Lib.Hide
import Derived.Test.YtbdhkagcbncefaaIndex
namespace Go.Proofs.Ytbdhkagcbncefaa
open Go.RowKit Go.Maps

/-- An index that was never asked. -/
def Fresh (w : World) (b : Nat) (A : Option Addr) (c : Nat) (ps : List Pr) : Prop :=
  Blk w b 96 #[.int .u32 0, .int .i32 0, .int .u32 0, .slice A ps.length c, .map none]

/-- An index that was made. -/
def Ready (w : World) (b : Nat) (A : Option Addr) (c : Nat) (ps : List Pr) : Prop :=
  ∃ bm D n, Blk w b 96 #[.int .u32 1, .int .i32 0, .int .u32 0, .slice A ps.length c, .map (some bm)] ∧
    w.ownsMap Try.prog 41 (plainElem Try.prog 3) bm n D ∧ Idx D ps

theorem grown_set {a w : World} {g : Nat} (h : a.grownBy w (some g)) (i : Nat) (u : Value) : a.grownBy (w.setCell ⟨g, i, none⟩ u) (some g) :=
  ⟨h.os, h.tape, h.output, by simpa [World.setCell] using h.size, fun j hj hne => (Below.heap_setCell w _ u j (fun e => hne (by rw [e]))).trans (h.block j hj hne)⟩
theorem grown_trans {a w w' : World} {row : Option Nat} (h : a.grownBy w row) (h' : w.grownBy w' row) : a.grownBy w' row :=
  ⟨h'.os.trans h.os, h'.tape.trans h.tape, h'.output.trans h.output, Nat.le_trans h.size h'.size, fun i hi hne => (h'.block i (Nat.lt_of_lt_of_le hi h.size) hne).trans (h.block i hi hne)⟩

theorem make_func : ∀ (fn : Fn) (first cap : Array Value) (w : World), (Instr.makeFunc fn first cap).run Try.prog w = .ok (.func fn first cap) w := fun _ _ _ _ => rfl

theorem load_zero (a : Addr) (w : World) (h : w.cell? a = some (.int .u32 0)) :
    Calls Try.prog 106 #[.pointer (some a)] w fun e w' => e = .returned (.bool false) ∧ w' = w := by
  have hl := run_call_load (P := Try.prog) Try.func109 (by kernel_rfl) (by kernel_rfl) (by kernel_rfl) .u32 (by kernel_rfl) h
  go_enter Try.func106, Try.ntmps106
  go_wp2
  go_ret
  exact ⟨rfl, rfl⟩
theorem load_one (a : Addr) (w : World) (h : w.cell? a = some (.int .u32 1)) :
    Calls Try.prog 106 #[.pointer (some a)] w fun e w' => e = .returned (.bool true) ∧ w' = w := by
  have hl := run_call_load (P := Try.prog) Try.func109 (by kernel_rfl) (by kernel_rfl) (by kernel_rfl) .u32 (by kernel_rfl) h
  go_enter Try.func106, Try.ntmps106
  go_wp2
  go_ret
  exact ⟨rfl, rfl⟩

set_option maxRecDepth 100000 in
set_option maxHeartbeats 1600000 in
theorem slow_any (b : Nat) (A : Option Addr) (c : Nat) (ps : List Pr) (w : World) (hx : Fresh w b A c ps) (hp : Prs w b A ps) (hok : ∀ p ∈ ps, PrOk p) (hl : ps.length ≤ 2000) :
    Calls Try.prog 107 #[.pointer (some ⟨b, 0, none⟩), .func (.func 100) #[.pointer (some ⟨b, 0, none⟩)] #[]] w fun e w' =>
      e = .returned (.tuple #[]) ∧ w.grownBy w' (some b) ∧ Ready w' b A c ps := by
  have hx1 : Blk (w.setCell ⟨b, 1, none⟩ (.int .i32 1)) b 96 #[.int .u32 0, .int .i32 1, .int .u32 0, .slice A ps.length c, .map none] := Blk.set_ hx 1 _
  have hp1 : Prs (w.setCell ⟨b, 1, none⟩ (.int .i32 1)) b A ps := hp.keep (fun b' o h => World.cell?_setCell_other _ _ _ _ (fun e => by injection e; omega))
  have hnot := @not_run Try.prog
  go_enter_defers Try.func107, Try.ntmps107
  go_wp2_with (first
    | (go_at_call 110; refine (lock_free ⟨b, 1, none⟩ _ ((Blk.cell hx 1).trans rfl) (Blk.frozen hx 1)).mono ?_; rintro e w' ⟨rfl, rfl⟩)
    | (go_at_call 106; refine (load_zero ⟨b, 0, none⟩ _ ((hx1.cell 0).trans rfl)).mono ?_; rintro e w' ⟨rfl, rfl⟩))
  refine (make_any b _ _ _ _ A c ps _ hx1 hp1 hok hl).mono ?_
  rintro e w2 ⟨rfl, hb2, hg2, D, n, hown, hI⟩
  go_wp2
  refine leaves_cons (f := 112) (args := #[.pointer (some ⟨b, 0, none⟩), .bool true]) (by simp) (by simp [go_sem]) ?_
  refine (store_deferred ⟨b, 0, none⟩ (.int .u32 0) .returning _ ((hb2.cell 0).trans rfl) (hb2.frozen 0)).mono ?_
  rintro e u' w'' ⟨rfl, rfl, rfl⟩
  have hb3 := (Blk.drew hb2).set_ 0 (.int .u32 1)
  refine leaves_cons (f := 111) (args := #[.pointer (some ⟨b, 1, none⟩)]) (by simp [settle]) (by simp [go_sem]) ?_
  refine (unlock_deferred ⟨b, 1, none⟩ _ _ ((hb3.cell 1).trans rfl) (hb3.frozen 1)).mono ?_
  rintro e u' w'' ⟨rfl, rfl, rfl⟩
  have hb4 := hb3.set_ 1 (.int .i32 0)
  have HF : Hid (w.grownBy ((w2.drew.setCell ⟨b, 0, none⟩ (.int .u32 1)).setCell ⟨b, 1, none⟩ (.int .i32 0)) (some b) ∧ Ready ((w2.drew.setCell ⟨b, 0, none⟩ (.int .u32 1)).setCell ⟨b, 1, none⟩ (.int .i32 0)) b A c ps) := by
    have hbn : b ≠ w.heap.size := Nat.ne_of_lt hx.lt
    have hz : (w.setCell ⟨b, 1, none⟩ (.int .i32 1)).heap.size = w.heap.size := by simp [World.setCell]
    rw [hz] at hb4 hown
    exact ⟨grown_set (grown_set (grown_trans (grown_set (World.grownBy.refl w (some b)) 1 _) hg2).drew 0 _) 1 _, w.heap.size, D, n, hb4, (hown.drew.setCell (a := ⟨b, 0, none⟩) (Ne.symm hbn) _).setCell (a := ⟨b, 1, none⟩) (Ne.symm hbn) _, hI⟩
  clear hb2 hb3 hb4 hown hI hx hp hok hx1 hp1 hg2
  simp [Leaves, settle, results, Try.results107]
  exact HF.out

set_option maxRecDepth 100000 in
set_option maxHeartbeats 1600000 in
theorem do_first (b : Nat) (A : Option Addr) (c : Nat) (ps : List Pr) (w : World) (hx : Fresh w b A c ps) (hp : Prs w b A ps) (hok : ∀ p ∈ ps, PrOk p) (hl : ps.length ≤ 2000) :
    Calls Try.prog 99 #[.pointer (some ⟨b, 0, none⟩), .func (.func 100) #[.pointer (some ⟨b, 0, none⟩)] #[]] w fun e w' =>
      e = .returned (.tuple #[]) ∧ w.grownBy w' (some b) ∧ Ready w' b A c ps := by
  have hnot := @not_run Try.prog
  go_enter Try.func99, Try.ntmps99
  go_wp2_with (first
    | (go_at_call 106; refine (load_zero ⟨b, 0, none⟩ _ ((Blk.cell hx 0).trans rfl)).mono ?_; rintro e w' ⟨rfl, rfl⟩)
    | (go_at_call 107; refine (slow_any b A c ps _ hx hp hok hl).mono ?_; rintro e w2 ⟨rfl, hg2, hr2⟩))
  go_end0
  exact ⟨rfl, hg2, hr2⟩

set_option maxRecDepth 100000 in
theorem do_done (b : Nat) (A : Option Addr) (c : Nat) (ps : List Pr) (fv : Value) (w : World) (hx : Ready w b A c ps) :
    Calls Try.prog 99 #[.pointer (some ⟨b, 0, none⟩), fv] w fun e w' => e = .returned (.tuple #[]) ∧ w' = w := by
  have hnot := @not_run Try.prog
  obtain ⟨bm, D, n, hb, _, _⟩ := hx
  go_enter Try.func99, Try.ntmps99
  go_wp2_with (go_at_call 106; refine (load_one ⟨b, 0, none⟩ _ ((hb.cell 0).trans rfl)).mono ?_; rintro e w' ⟨rfl, rfl⟩)
  go_end0
  exact ⟨rfl, rfl⟩

/-- How many unlike gates there are. -/
def ManyIs (w w' : World) (b : Nat) (A : Option Addr) (c : Nat) (ps : List Pr) (e : Ending) : Prop :=
  ∃ m : Nat, e = .returned (.int .i64 m) ∧ m ≤ ps.length ∧ (m = ps.length ↔ ps.Nodup) ∧ w.grownBy w' (some b) ∧ Ready w' b A c ps

set_option maxRecDepth 100000 in
theorem many_fresh (b : Nat) (A : Option Addr) (c : Nat) (ps : List Pr) (w : World) (hx : Fresh w b A c ps) (hp : Prs w b A ps) (hok : ∀ p ∈ ps, PrOk p) (hl : ps.length ≤ 2000) :
    Calls Try.prog 98 #[.pointer (some ⟨b, 0, none⟩)] w fun e w' => ManyIs w w' b A c ps e := by
  have hmf := make_func
  go_enter Try.func98, Try.ntmps98
  go_wp2_with fail
  refine (do_first b A c ps _ hx hp hok hl).mono ?_
  rintro e w2 ⟨rfl, hg2, hr2⟩
  have HR := Lib.hid hr2
  obtain ⟨bm, D, n, hb2, hown, hI⟩ := hr2
  have c4 : w2.cell? ⟨b, 4, none⟩ = some (.map (some bm)) := (hb2.cell 4).trans rfl
  have hlen := hown.len Try.underlying94 3
  clear hb2 hown hx hp hok
  go_wp2_with fail
  go_ret
  exact ⟨Maps.size D, rfl, hI.le, hI.all, hg2, HR.out⟩

/-- A gate's place. -/
def FindIs (w w' : World) (ps : List Pr) (p : Pr) (e : Ending) : Prop :=
  ((∃ i : Nat, ps[i]? = some p ∧ e = .returned (.tuple #[.int .i64 i, .bool true])) ∨ (p ∉ ps ∧ e = .returned (.tuple #[.int .i64 0, .bool false]))) ∧ Below w.heap.size w w'

set_option maxRecDepth 100000 in
theorem find_ready (b : Nat) (A : Option Addr) (c : Nat) (ps : List Pr) (p1 p2 : Int) (w : World) (hx : Ready w b A c ps) (hok : PrOk (p1, p2)) (hn : ps.Nodup) :
    Calls Try.prog 74 #[.pointer (some ⟨b, 0, none⟩), .agg #[.int .i64 p1, .int .i64 p2]] w fun e w' => FindIs w w' ps (p1, p2) e := by
  have hmf := make_func
  have hbel : Below w.heap.size w ((w.alloc (.cells #[.int .i64 p1, .int .i64 p2] 41)).drew) := ((Below.refl _ _).alloc (Nat.le_refl _) _).drew
  have hx2 : Ready (w.alloc (.cells #[.int .i64 p1, .int .i64 p2] 41)) b A c ps := by
    obtain ⟨bm, D, n, hb, hown, hI⟩ := hx
    exact ⟨bm, D, n, hb.alloc _, hown.alloc _, hI⟩
  have HX := Lib.hid hx2
  clear hx2
  obtain ⟨bm, D, n, hb, hown, hI⟩ := hx
  have hkey := keyOf_pair hok
  have hown2 : ((w.alloc (.cells #[.int .i64 p1, .int .i64 p2] 41)).drew).ownsMap Try.prog 41 (plainElem Try.prog 3) bm n D := hown.alloc _
  obtain ⟨v, pl, hrun, hv⟩ := hown2.look_ok pairLaw Try.underlying94 (zeroInt _) (plainElem_int Try.underlying3 (by decide)) hkey
  obtain ⟨vi, rfl, hvi, _⟩ := plainElem_int_inv Try.underlying3 hv
  have hvi' : D.atKey (kl (p1, p2)) (.lit (.int .i64 0)) = .lit (.int .i64 vi) := congrArg Prod.fst hvi
  have HF : Hid (((∃ i : Nat, ps[i]? = some (p1, p2) ∧ Maps.has D (kl (p1, p2)) = true ∧ vi = i) ∨ ((p1, p2) ∉ ps ∧ Maps.has D (kl (p1, p2)) = false ∧ vi = 0))) := by
    by_cases hin : (p1, p2) ∈ ps
    · obtain ⟨i, hi, e⟩ := List.getElem_of_mem hin
      have hi' : ps[i]? = some (p1, p2) := by rw [List.getElem?_eq_getElem hi, e]
      refine .inl ⟨i, hi', (hI.mem _ hok).2 hin, ?_⟩
      have := hI.at_ i _ hok hi' (fun j hj hj' => by
        have h1 := (List.getElem?_inj (Nat.lt_trans hj hi) hn).1 (hj'.trans hi'.symm)
        omega) (.lit (.int .i64 0))
      rw [this] at hvi'
      simpa using hvi'.symm
    · have hno : Maps.has D (kl (p1, p2)) = false := by
        cases e : Maps.has D (kl (p1, p2))
        · rfl
        · exact absurd ((hI.mem _ hok).1 e) hin
      refine .inr ⟨hin, hno, ?_⟩
      rw [atKey_of_not_has hno] at hvi'
      simpa using hvi'.symm
  have c4 : (w.alloc (.cells #[.int .i64 p1, .int .i64 p2] 41)).drew.cell? ⟨b, 4, none⟩ = some (.map (some bm)) := ((hb.alloc _).cell 4).trans rfl
  clear hb hown hkey hown2 hv hI hvi hvi' hn hok
  generalize Maps.has D (kl (p1, p2)) = hd at *
  go_enter Try.func74, Try.ntmps74
  go_wp2_with fail
  refine (do_done b A c ps _ _ HX.out).mono ?_
  rintro e w' ⟨rfl, rfl⟩
  go_wp2_with fail
  go_region
  all_goals go_wp2_with fail
  all_goals go_ret2
  all_goals
    refine ⟨?_, hbel⟩
    rcases HF.out with ⟨i, hi, rfl, rfl⟩ | ⟨hi, rfl, rfl⟩
    · exact .inl ⟨i, hi, rfl⟩
    · exact .inr ⟨hi, rfl⟩
end Go.Proofs.Ytbdhkagcbncefaa
