/- Tokens: the iterator of tokens, its contract. -/
import Derived.RangeFuncNested
import Derived.RangeFuncBound
import Derived.RangeFuncCalls
import Derived.RangeFuncLeaves
import Derived.Shelf.Abstract
import Derived.Shelf.RegionOpen
import Derived.OwnWalkIn
import Derived.TacticsInMore
import Derived.LoopNIn
import Derived.LoopIn
import Derived.Test.YtijecfmblddanaaDoorSeqIn
import Derived.Test.YtijecfmblddanaaDoorKn
import Derived.Test.YtijecfmblddanaaDoorTkSign
set_option linter.unusedVariables false
set_option linter.unusedSimpArgs false
namespace Go.Proofs.YtijecfmblddanaaDoor
open Go.RowKit Go.Maps Go.Shelf
attribute [local go_sem] Oper.semAt_some

/-- The box ob names block g. -/
def RowAt (ob : Nat) (W : World) (g : Nat) : Prop := ∃ o n c, W.cell? ⟨ob, 0, none⟩ = some (.slice (some ⟨g, o, none⟩) n c)
/-- The row that ob names lies from n0 on, and is there. -/
def OldRow (n0 ob : Nat) (W : World) : Prop := ∀ g, RowAt ob W g → n0 ≤ g ∧ g < W.heap.size
/-- What a round of the loop keeps: all blocks of cells, but for its three boxes and the row. -/
def LexK (n0 ob eb ab : Nat) (W W' : World) : Prop :=
  OldRow n0 ob W → OldRow n0 ob W' ∧ W.heap.size ≤ W'.heap.size ∧ (∀ g, RowAt ob W' g → RowAt ob W g ∨ W.heap.size ≤ g) ∧
    ∀ (i : Nat) (cs : Array Value) (t : TypeId) (fr : Nat × Nat), W.heap[i]? = some (.cells cs t fr) → i ≠ ob → i ≠ eb → i ≠ ab → ¬ RowAt ob W i → W'.heap[i]? = W.heap[i]?

theorem LexK.trans {n0 ob eb ab : Nat} {A B C : World} (h : LexK n0 ob eb ab A B) (k : LexK n0 ob eb ab B C) : LexK n0 ob eb ab A C := fun hA => by
  obtain ⟨b1, b2, b3, b4⟩ := h hA
  obtain ⟨c1, c2, c3, c4⟩ := k b1
  refine ⟨c1, Nat.le_trans b2 c2, fun g hg => ?_, fun i cs t fr hi h1 h2 h3 h4 => ?_⟩
  · rcases c3 g hg with h' | h'
    · exact b3 g h'
    · exact .inr (by omega)
  · have hB := b4 i cs t fr hi h1 h2 h3 h4
    have hlt := (Array.getElem?_eq_some_iff.1 hi).1
    rw [c4 i cs t fr (hB.trans hi) h1 h2 h3 (fun hr => by
      rcases b3 i hr with h' | h'
      · exact h4 h'
      · omega), hB]
theorem rowAt_same {ob : Nat} {W W' : World} (h : W'.heap[ob]? = W.heap[ob]?) (g : Nat) : RowAt ob W' g ↔ RowAt ob W g := by
  unfold RowAt
  rw [World.cell?_of_block (w := W) (w' := W') h]
theorem LexK.putObj {n0 ob eb ab : Nat} {W : World} {l : Nat} {o o' : Obj} (hl : ob < l) (h : W.heap[l]? = some o) (hc : o.isCells = false) : LexK n0 ob eb ab W (W.putObj l o') := fun hA => by
  have hlt : l < W.heap.size := (Array.getElem?_eq_some_iff.1 h).1
  have hob : (W.putObj l o').heap[ob]? = W.heap[ob]? := World.putObj_heap_other (by omega)
  have hsz : (W.putObj l o').heap.size = W.heap.size := by simp [World.putObj]
  refine ⟨fun g hg => by rw [hsz]; exact hA g ((rowAt_same hob g).1 hg), by omega, fun g hg => .inl ((rowAt_same hob g).1 hg), fun i cs t fr hi _ _ _ _ => World.putObj_heap_other (fun e => ?_)⟩
  subst e
  rw [h] at hi
  cases hi
  cases hc
theorem LexK.below {n0 ob eb ab : Nat} {W W' : World} (hob : ob < W.heap.size) (hb : Below W.heap.size W W') : LexK n0 ob eb ab W W' := fun hA => by
  have e := hb.block ob hob
  refine ⟨fun g hg => ?_, hb.size, fun g hg => .inl ((rowAt_same e g).1 hg), fun i cs t fr hi _ _ _ _ => hb.block i (Array.getElem?_eq_some_iff.1 hi).1⟩
  obtain ⟨h1, h2⟩ := hA g ((rowAt_same e g).1 hg)
  exact ⟨h1, by have := hb.size; omega⟩

set_option maxHeartbeats 400000 in
theorem tokens_in (F : Fence) (n : Nat) (hf : F.fn 34) (hro : F.round = none) (s : ByteArray) (w : World) :
    CallsIn F n Tryd.prog 34 #[.string s] w fun e w' => e = .returned (.func (.func 54) #[] #[.pointer (some ⟨w.heap.size, 0, none⟩)]) ∧ w' = w.alloc (.cells #[.string s] 9) := by
  have hmf : ∀ (fn : Fn) (first cap : Array Value) (w : World), (Instr.makeFunc fn first cap).run Tryd.prog w = .ok (.func fn first cap) w := fun _ _ _ _ => rfl
  refine callsIn_of_wp Tryd.func34 rfl hf ?_ hro
  simp only [Tryd.ntmps34, List.size_toArray, List.length_cons, List.length_nil, Nat.reduceAdd, Nat.reduceSub, Array.replicate_succ, Array.replicate_zero, List.push_toArray, List.append_toArray, List.nil_append, List.cons_append]
  gi_wp2
  go_ret
  exact ⟨rfl, rfl⟩

theorem blank_contains (c : UInt8) : ([32, 9, 10] : List UInt8).contains c = blankB c := by
  rw [Bool.eq_iff_iff]
  unfold blankB
  simp only [List.contains_cons, List.contains_nil, Bool.or_false, Bool.or_eq_true, beq_iff_eq, decide_eq_true_eq, ← UInt8.toNat_inj]
  constructor
  · rintro (h | h | h)
    · exact .inl (.inl h)
    · exact .inl (.inr h)
    · exact .inr h
  · rintro ((h | h) | h)
    · exact .inl h
    · exact .inr (.inl h)
    · exact .inr (.inr h)
theorem trim_blank (l : List UInt8) : Lib.trimLeftS l [32, 9, 10] = l.dropWhile blankB := by
  unfold Lib.trimLeftS
  congr 1
  funext c
  exact blank_contains c

theorem firstL_items (l : List UInt8) (a : Nat) : ∃ (k : Int) (x : List UInt8) (ok : Bool) (rest : List (Tk × Bool)), firstL (l.dropWhile blankB) = (k, x, ok) ∧
    items l a = ((⟨k, x, a + (l.length - (l.dropWhile blankB).length)⟩, ok) : Tk × Bool) :: rest ∧ (ok = false → rest = []) ∧ (k = 0 → rest = []) ∧ x.length ≤ (l.dropWhile blankB).length ∧
    (ok = true → k ≠ 0 → 0 < x.length ∧ rest = items ((l.dropWhile blankB).drop x.length) (a + (l.length - (l.dropWhile blankB).length) + x.length)) := by
  have hie := items_eq l a
  generalize (l.dropWhile blankB) = d at hie ⊢
  unfold firstL
  by_cases h0 : d = []
  · rw [if_pos h0] at hie
    rw [if_pos h0]
    exact ⟨0, [], true, [], rfl, hie, fun _ => rfl, fun _ => rfl, Nat.zero_le _, fun _ h => absurd rfl h⟩
  · rw [if_neg h0] at hie
    rw [if_neg h0]
    by_cases h1 : 0 < nameL d
    · rw [if_pos h1] at hie
      rw [if_pos h1]
      have hl : (d.take (nameL d)).length = nameL d := by rw [List.length_take]; have := nameL_le d; omega
      exact ⟨1, _, true, _, rfl, hie, (fun h => by cases h), (fun h => by cases h), by rw [hl]; exact nameL_le d, fun _ _ => ⟨by omega, by rw [hl]⟩⟩
    · rw [if_neg h1] at hie
      rw [if_neg h1]
      have hl : (d.take (signL d)).length = signL d := by rw [List.length_take]; have := signL_le d; omega
      by_cases h2 : 0 < signL d
      · rw [if_pos h2] at hie
        exact ⟨2, _, _, _, rfl, by rw [decide_eq_true h2]; exact hie, (fun h => by rw [decide_eq_true h2] at h; cases h), (fun h => by cases h), by rw [hl]; exact signL_le d, fun _ _ => ⟨by omega, by rw [hl]⟩⟩
      · rw [if_neg h2] at hie
        have e : signL d = 0 := by omega
        exact ⟨2, _, _, [], rfl, by rw [decide_eq_false h2, e]; exact hie, (fun h => rfl), (fun h => rfl), by rw [hl]; exact signL_le d, fun h => by rw [decide_eq_false h2] at h; cases h⟩

/-- What is handed to a round. -/
def encTk (x : Tk × Bool) : Array Value := #[.agg #[.int .i64 x.1.kind, .string ⟨x.1.text.toArray⟩, .int .i64 (x.1.place : Int)], .bool x.2]

set_option maxRecDepth 100000 in
set_option maxHeartbeats 2000000 in
theorem toks1_in (n : Nat) (hn : 1 ≤ n) (s : ByteArray) (hs : s.size ≤ 20000) (n0 l Bs ob eb ab : Nat) (J Jx : List (Tk × Bool) → World → Prop) (hBs : Bs < n0) (hbo : Bs ≠ ob ∧ Bs ≠ eb ∧ Bs ≠ ab) (hen : eb < n0) (han : ab < n0)
    (hY : ∀ pre x W, J pre W → pre.length < (items s.data.toList 0).length → YieldAt Fence.wide (n - 1) Tryd.prog l (encTk x) W fun e W' =>
      (e = .returned (.bool true) ∧ J (pre ++ [x]) W' ∧ LexK n0 ob eb ab W W') ∨ (e = .returned (.bool false) ∧ Jx (pre ++ [x]) W'))
    (W : World) (hJa : AbidesFrom W.heap.size J) (hob : ob < n0) (hn0 : n0 ≤ W.heap.size) (hOR : OldRow n0 ob W) (hB : Blk W Bs 9 #[.string s]) (h0 : J [] W) :
    CallsIn Fence.wide n Tryd.prog 54 #[.func (.yield l) #[] #[], .pointer (some ⟨Bs, 0, none⟩)] W fun e W' => (∃ v, e = .returned v) ∧
      ((∃ ys, ys = items s.data.toList 0 ∧ J ys W') ∨ (∃ pre, (∃ k, k ≤ (items s.data.toList 0).length ∧ pre = (items s.data.toList 0).take k) ∧ Jx pre W')) := by
  have hnot := @not_run Tryd.prog
  refine callsIn_of_wp Tryd.func54 rfl trivial ?_ rfl
  simp only [Tryd.ntmps54, List.size_toArray, List.length_cons, List.length_nil, Nat.reduceAdd, Nat.reduceSub, Array.replicate_succ, Array.replicate_zero, List.push_toArray, List.append_toArray, List.nil_append, List.cons_append]
  gi_wp2
  gi_loopw [3] (fun i wr => ∃ (a : Nat) (pre : List (Tk × Bool)), a ≤ s.size ∧ i = .int .i64 (a : Int) ∧ items s.data.toList 0 = pre ++ items (s.data.toList.drop a) a ∧ J pre wr ∧ OldRow n0 ob wr ∧ Blk wr Bs 9 #[.string s] ∧ W.heap.size ≤ wr.heap.size)
    (fun i _ => s.size - (intOf i).toNat)
  case atStart => exact ⟨0, [], Nat.zero_le _, rfl, rfl, h0, hOR, hB, Nat.le_refl _⟩
  case round =>
    obtain ⟨a, pre, ha, rfl, hit, hJ, hOr, hBr, hsz⟩ := hrel
    have hc0 := hBr.cell 0
    have hsd : s.data.toList.length = s.size := Array.length_toList
    have hdl : (s.data.toList.drop a).length = s.size - a := by rw [List.length_drop, hsd]
    have hdd := dropW_le blankB (s.data.toList.drop a)
    have hdr : (s.data.toList.drop a).drop ((s.data.toList.drop a).length - ((s.data.toList.drop a).dropWhile blankB).length) = (s.data.toList.drop a).dropWhile blankB := by
      obtain ⟨t, ht⟩ := List.dropWhile_suffix blankB (l := s.data.toList.drop a)
      have : (s.data.toList.drop a).length - ((s.data.toList.drop a).dropWhile blankB).length = t.length := by
        have := congrArg List.length ht
        rw [List.length_append] at this
        omega
      rw [this]
      conv => lhs; rw [← ht]
      exact List.drop_left
    obtain ⟨b, hb⟩ : ∃ b, b = a + ((s.data.toList.drop a).length - ((s.data.toList.drop a).dropWhile blankB).length) := ⟨_, rfl⟩
    have hbs : b ≤ s.size := by omega
    have hab : a ≤ b := by omega
    have HT : ∀ w, Calls Tryd.prog 55 #[.string (s.extract a s.size), .string ⟨#[32, 9, 10]⟩] w fun e w' => e = .returned (.string ⟨((s.data.toList.drop a).dropWhile blankB).toArray⟩) ∧ Below w.heap.size w w' := fun w => by
      have h := trim_any (s.extract a s.size) w
      rw [Lib.extract_to_end, trim_blank] at h
      exact h
    have htl : (⟨((s.data.toList.drop a).dropWhile blankB).toArray⟩ : ByteArray).size = s.size - b := by
      show ((s.data.toList.drop a).dropWhile blankB).toArray.size = _
      rw [List.size_toArray]
      omega
    have HX : (s.extract b s.size).data.toList = (s.data.toList.drop a).dropWhile blankB := by
      rw [Lib.extract_to_end, ← hdr, List.drop_drop]
      congr 1
    have HF : ∀ w, Calls Tryd.prog 56 #[.string (s.extract b s.size)] w fun e w' => e = .returned (.tuple #[.agg #[.int .i64 (firstL ((s.data.toList.drop a).dropWhile blankB)).1, .string ⟨(firstL ((s.data.toList.drop a).dropWhile blankB)).2.1.toArray⟩, .int .i64 0], .bool (firstL ((s.data.toList.drop a).dropWhile blankB)).2.2]) ∧ Below w.heap.size w w' := fun w => by
      have h := first_any (s.extract b s.size) (by rw [ByteArray.size_extract]; omega) w
      rw [HX] at h
      exact h
    obtain ⟨kd, tx, ok, rest, hfl, hie, hr1, hr2, hr4, hr3⟩ := firstL_items (s.data.toList.drop a) a
    rw [hfl] at HF
    rw [← hb] at hie hr3
    have hdb : (s.data.toList.drop a).dropWhile blankB = s.data.toList.drop b := by
      rw [← hdr, List.drop_drop]
      congr 1
      omega
    rw [hdb, List.drop_drop] at hr3
    generalize (s.data.toList.drop a).dropWhile blankB = d at HT htl HX HF hie hdd hb hr4 hfl hdb
    generalize (⟨d.toArray⟩ : ByteArray) = T at HT htl
    have hsub : IntKind.i64.wrap ((s.size : Int) - (T.size : Int)) = (b : Int) := by
      have : (T.size : Int) = (s.size : Int) - (b : Int) := by omega
      rw [this, IntWalk.i64_in _ (by omega)]
      omega
    have Hsub := Lib.hid hsub
    have Hit := Lib.hid hit
    have Hie := Lib.hid hie
    have Hr1 := Lib.hid hr1
    have Hr2 := Lib.hid hr2
    have Hr3 := Lib.hid hr3
    have htx : tx.length ≤ s.size - b := by omega
    have HHT := Lib.hid HT
    have HHF := Lib.hid HF
    have hbi : (b : Int) ≤ (s.size : Int) := by omega
    have hai : (a : Int) ≤ (s.size : Int) := by omega
    clear hsub hit hie HT HF HX hb htl hdr hdl hsd hdd hr1 hr2 hr3 hr4 hfl hdb
    gi_wp2
    refine wpIn_region_noPanic ?_
    refine wpIn_region_seq (fun W => W.cell? ⟨Bs, 0, none⟩ = some (.string s)) [0, 1, 2, 3, 4, 5, 6, 7, 8] [0, 1, 2, 3, 6, 7, 8] [] (by kernel_rfl) (by kernel_rfl) (by kernel_rfl) rfl (by kernel_rfl) (by kernel_rfl) (fun _ _ _ _ _ h => h) ?_ (fun hSS => ?_)
    · exact hc0
    (refine wpSeqIn_mov rfl rfl ?_; intro o ho; simp only [List.getElem?_toArray, List.getElem?_cons_zero, List.getElem?_cons_succ, Option.some.injEq] at ho; subst ho; refine ⟨?_, fun _ _ => rfl⟩; refine ⟨?_, Or.inl ⟨by rfl, fun W hSW => ?_⟩, ?_⟩; rotate_left; (focus (go_simp; first | done | with_reducible rfl)); try simp only [Act.put, List.setIfInBounds_toArray, List.set_cons_zero, List.set_cons_succ])
    (refine wpSeqIn_mov rfl rfl ?_; intro o ho; simp only [List.getElem?_toArray, List.getElem?_cons_zero, List.getElem?_cons_succ, Option.some.injEq] at ho; subst ho; refine ⟨?_, fun _ _ => rfl⟩; refine ⟨?_, Or.inl ⟨by rfl, fun W hSW => ?_⟩, ?_⟩; rotate_left; (focus (go_simp; first | done | with_reducible rfl)); try simp only [Act.put, List.setIfInBounds_toArray, List.set_cons_zero, List.set_cons_succ])
    (refine wpSeqIn_mov rfl rfl ?_; intro o ho; simp only [List.getElem?_toArray, List.getElem?_cons_zero, List.getElem?_cons_succ, Option.some.injEq] at ho; subst ho; refine ⟨?_, fun _ _ => rfl⟩; refine ⟨?_, Or.inl ⟨by rfl, fun W hSW => ?_⟩, ?_⟩; rotate_left; (focus (go_simp; first | done | with_reducible rfl)); try simp only [Act.put, List.setIfInBounds_toArray, List.set_cons_zero, List.set_cons_succ])
    (refine wpSeqIn_mov rfl rfl ?_; intro o ho; simp only [List.getElem?_toArray, List.getElem?_cons_zero, List.getElem?_cons_succ, Option.some.injEq] at ho; subst ho; refine ⟨?_, fun _ _ => rfl⟩; refine ⟨?_, Or.inl ⟨by rfl, fun W hSW => ?_⟩, ?_⟩; rotate_left; (focus (go_simp; first | done | with_reducible rfl)); try simp only [Act.put, List.setIfInBounds_toArray, List.set_cons_zero, List.set_cons_succ])
    (refine wpSeqIn_fix rfl rfl ?_; intro o ho; simp only [List.getElem?_toArray, List.getElem?_cons_zero, List.getElem?_cons_succ, Option.some.injEq] at ho; subst ho; intro K hK)
    go_simp
    (refine hK.out _ _ (fun _ => hSS) ?_; clear hK K; try simp only [Act.put, List.setIfInBounds_toArray, List.set_cons_zero, List.set_cons_succ])
    (refine wpSeqIn_fix rfl rfl ?_; intro o ho; simp only [List.getElem?_toArray, List.getElem?_cons_zero, List.getElem?_cons_succ, Option.some.injEq] at ho; subst ho; intro K hK)
    go_simp
    refine ⟨trivial, ?_⟩
    refine (callsIn_wide.2 (HHT.out _)).mono ?_
    rintro e w1 ⟨rfl, hb1⟩
    have hS1 : w1.cell? ⟨Bs, 0, none⟩ = some (.string s) := by
      rw [(bcell hb1).1 _ _ hBr.lt]
      exact hc0
    (refine hK.out _ _ (fun _ => hS1) ?_; clear hK K; try simp only [Act.put, List.setIfInBounds_toArray, List.set_cons_zero, List.set_cons_succ])
    have HS := Hsub.out
    (refine wpSeqIn_mov rfl rfl ?_; intro o ho; simp only [List.getElem?_toArray, List.getElem?_cons_zero, List.getElem?_cons_succ, Option.some.injEq] at ho; subst ho; refine ⟨?_, fun _ _ => rfl⟩; refine ⟨?_, Or.inl ⟨by rfl, fun W hSW => ?_⟩, ?_⟩; rotate_left; (focus (go_simp; first | done | with_reducible rfl)); try simp only [Act.put, List.setIfInBounds_toArray, List.set_cons_zero, List.set_cons_succ])
    (refine wpSeqIn_mov rfl rfl ?_; intro o ho; simp only [List.getElem?_toArray, List.getElem?_cons_zero, List.getElem?_cons_succ, Option.some.injEq] at ho; subst ho; refine ⟨?_, fun _ _ => rfl⟩; refine ⟨?_, Or.inl ⟨by rfl, fun W hSW => ?_⟩, ?_⟩; rotate_left; (focus (go_simp; first | done | with_reducible rfl)); try simp only [Act.put, List.setIfInBounds_toArray, List.set_cons_zero, List.set_cons_succ])
    (refine wpSeqIn_mov rfl rfl ?_; intro o ho; simp only [List.getElem?_toArray, List.getElem?_cons_zero, List.getElem?_cons_succ, Option.some.injEq] at ho; subst ho; refine ⟨?_, fun _ _ => rfl⟩; refine ⟨?_, Or.inl ⟨by rfl, fun W hSW => ?_⟩, ?_⟩; rotate_left; (focus (go_simp; first | done | with_reducible rfl)); try simp only [Act.put, List.setIfInBounds_toArray, List.set_cons_zero, List.set_cons_succ])
    clear HS
    refine wpSeqIn_done ?_
    gi_wp2
    refine ⟨trivial, ?_⟩
    refine (callsIn_wide.2 (HHF.out _)).mono ?_
    rintro e w2 ⟨rfl, hb2⟩
    have hbY : Below wr.heap.size wr (w2.alloc (.cells #[.int .i64 kd, .string ⟨tx.toArray⟩, .int .i64 (b : Int)] 32)) :=
      step2 (step2 (step2 (stepD1 wr) hb1) hb2) (stepA w2 _)
    have hsY : (w2.alloc (.cells #[.int .i64 kd, .string ⟨tx.toArray⟩, .int .i64 (b : Int)] 32)).heap.size = w2.heap.size + 1 := by simp
    have hszb : wr.heap.size ≤ w2.heap.size := (step2 (step2 (stepD1 wr) hb1) hb2).size
    have hBt := Blk.new w2 32 #[.int .i64 kd, .string ⟨tx.toArray⟩, .int .i64 (b : Int)]
    have hJY : J pre (w2.alloc (.cells #[.int .i64 kd, .string ⟨tx.toArray⟩, .int .i64 (b : Int)] 32)) :=
      hJa pre _ _ none hJ ⟨hbY.os, hbY.tape, hbY.output, hbY.size, fun i hi _ => hbY.block i hi⟩ (fun r e => by cases e)
    have hkY := LexK.below (n0 := n0) (ob := ob) (eb := eb) (ab := ab) (by omega) hbY hOr
    have hBY : Blk (w2.alloc (.cells #[.int .i64 kd, .string ⟨tx.toArray⟩, .int .i64 (b : Int)] 32)) Bs 9 #[.string s] := Blk.below hBr hbY hBr.lt
    have hrt : ¬ RowAt ob (w2.alloc (.cells #[.int .i64 kd, .string ⟨tx.toArray⟩, .int .i64 (b : Int)] 32)) w2.heap.size := fun h => by
      have := (hOr _ ((rowAt_same (hbY.block ob (by omega)) _).1 h)).2
      omega
    have hrs : ¬ RowAt ob (w2.alloc (.cells #[.int .i64 kd, .string ⟨tx.toArray⟩, .int .i64 (b : Int)] 32)) Bs := fun h => by
      have := (hkY.1 _ h).1
      omega
    obtain ⟨fn, tmps, assign, body, hy, hR⟩ := hY pre (⟨kd, tx, b⟩, ok) _ hJY (by rw [Hit.out, Hie.out]; simp)
    unfold encTk at hy
    have HkY := Lib.hid hkY
    have HBt := Lib.hid hBt
    have HBY := Lib.hid hBY
    have HrT := Lib.hid hrt
    have HrS := Lib.hid hrs
    clear hkY hBt hBY hrt hrs
    gi_wp2
    refine hR.mono ?_
    rintro e W3 (⟨rfl, hJ3, hk3⟩ | ⟨rfl, hJx3⟩)
    · obtain ⟨k1, k2, k3, k4⟩ := hk3 HkY.out.1
      have hB3 : Blk W3 Bs 9 #[.string s] := (k4 Bs _ _ _ HBY.out (by omega) (by omega) (by omega) HrS.out).trans HBY.out
      have hT3 : Blk W3 w2.heap.size 32 #[.int .i64 kd, .string ⟨tx.toArray⟩, .int .i64 (b : Int)] := (k4 w2.heap.size _ _ _ HBt.out (by omega) (by omega) (by omega) HrT.out).trans HBt.out
      have hsz3 : W.heap.size ≤ W3.heap.size := by omega
      have c0 : W3.cell? ⟨w2.heap.size, 0, none⟩ = some (.int .i64 kd) := hT3.cell 0
      have c1 : W3.cell? ⟨w2.heap.size, 1, none⟩ = some (.string ⟨tx.toArray⟩) := hT3.cell 1
      clear hy hT3 k4 k3 HHT HHF
      have HC1 := Lib.hid c1
      clear c1
      cases ok with
      | false =>
        have hall : items s.data.toList 0 = pre ++ [(⟨kd, tx, b⟩, false)] := by rw [Hit.out, Hie.out, Hr1.out rfl]
        rw [← hall] at hJ3
        have HA := Lib.hid hJ3
        gi_wp2
        refine bodyPost_ret (results_none rfl _ _ _) rfl ?_
        exact ⟨⟨_, rfl⟩, .inl ⟨_, rfl, HA.out⟩⟩
      | true =>
        by_cases hkd : kd = 0
        · have hall : items s.data.toList 0 = pre ++ [(⟨kd, tx, b⟩, true)] := by rw [Hit.out, Hie.out, Hr2.out hkd]
          rw [← hall] at hJ3
          have HA := Lib.hid hJ3
          subst hkd
          gi_wp2
          refine bodyPost_ret (results_none rfl _ _ _) rfl ?_
          exact ⟨⟨_, rfl⟩, .inl ⟨_, rfl, HA.out⟩⟩
        · obtain ⟨g1, g2⟩ := Hr3.out rfl hkd
          have hkd' : (kd == 0) = false := by simpa using hkd
          have hxs : (⟨tx.toArray⟩ : ByteArray).size = tx.length := by show tx.toArray.size = _; rw [List.size_toArray]
          have C1 := HC1.out
          have G2 := Lib.hid g2
          have HXS := Lib.hid hxs
          generalize (⟨tx.toArray⟩ : ByteArray) = TX at C1 HXS
          have hTX : (TX.size : Int) ≤ 20000 := by have := HXS.out; omega
          clear hkd g2 hxs HC1
          gi_wp2
          go_roundw
          case rel =>
            refine ⟨b + tx.length, pre ++ [(⟨kd, tx, b⟩, true)], by omega, ?_, ?_, hJ3, k1, hB3, hsz3⟩
            · rw [HXS.out]
              first | rfl | (congr 1; omega)
            · rw [Hit.out, Hie.out, G2.out, List.append_assoc]
              rfl
          case measure => first | (simp [intOf]; omega) | (have := HXS.out; simp [intOf]; omega)
    · gi_wp2
      refine bodyPost_ret (results_none rfl _ _ _) rfl ?_
      refine ⟨⟨_, rfl⟩, .inr ⟨_, ⟨pre.length + 1, ?_, ?_⟩, hJx3⟩⟩
      · rw [Hit.out, Hie.out]
        simp
      · rw [Hit.out, Hie.out, List.take_append, List.take_of_length_le (Nat.le_succ _), Nat.add_sub_cancel_left]
        rfl

/-- The value of tokens: all items, or the first of them. -/
theorem tokens_stops (n : Nat) (hn : 1 ≤ n) (s : ByteArray) (hs : s.size ≤ 20000) (Bs ob eb ab : Nat) (w : World) (hbo : Bs ≠ ob ∧ Bs ≠ eb ∧ Bs ≠ ab) (hen : eb < w.heap.size) (han : ab < w.heap.size) (ho : w.cell? ⟨ob, 0, none⟩ = some (.slice none 0 0)) (hB : Blk w Bs 9 #[.string s]) :
    SeqStopsK Fence.wide n Tryd.prog 54 #[.pointer (some ⟨Bs, 0, none⟩)] encTk (LexK w.heap.size ob eb ab) (fun ys => ys = items s.data.toList 0)
      (fun pre => ∃ k, k ≤ (items s.data.toList 0).length ∧ pre = (items s.data.toList 0).take k) (items s.data.toList 0).length w := fun l J Jx W hW hJa _ hY h0 => by
  have hob : ob < w.heap.size := block_lt_of_cell ho
  have hoW := ((bcell hW).1 ob 0 hob).trans ho
  exact toks1_in n hn s hs w.heap.size l Bs ob eb ab J Jx hB.lt hbo hen han hY W hJa hob hW.size (fun g ⟨o, m, c, h⟩ => by rw [hoW] at h; cases h) (hB.below hW hB.lt) h0
end Go.Proofs.YtijecfmblddanaaDoor
