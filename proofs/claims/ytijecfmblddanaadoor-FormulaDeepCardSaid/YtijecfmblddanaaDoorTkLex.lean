/- Tokens: Lex. -/
import Derived.Maps.OwnIn
import Derived.Test.YtijecfmblddanaaDoorApp
import Derived.Test.YtijecfmblddanaaDoorTkIter
import Derived.Test.YtijecfmblddanaaDoorPTok2
set_option linter.unusedVariables false
set_option linter.unusedSimpArgs false
namespace Go.Proofs.YtijecfmblddanaaDoor
open Go.RowKit Go.Maps Go.Shelf
attribute [local go_sem] Oper.semAt_some

/-- A token's cells; a list's, one behind the other. -/
def tkCells (t : Tk) : List Value := [.int .i64 t.kind, .string ⟨t.text.toArray⟩, .int .i64 (t.place : Int)]
def flatTk (l : List Tk) : List Value := l.flatMap tkCells
theorem flatTk_append (a b : List Tk) : flatTk (a ++ b) = flatTk a ++ flatTk b := by simp [flatTk]
theorem flatTk_length : ∀ l : List Tk, (flatTk l).length = l.length * 3
  | [] => rfl
  | t :: l => by
    have := flatTk_length l
    simp only [flatTk, List.flatMap_cons, List.length_append, List.length_cons, tkCells, List.length_nil] at this ⊢
    omega
theorem flatTk_one (l : List Tk) : ∀ u ∈ flatTk l, u.oneCell' = true := by
  intro u hu
  obtain ⟨t, _, ht⟩ := List.mem_flatMap.1 hu
  simp [tkCells] at ht
  rcases ht with rfl | rfl | rfl <;> rfl

theorem tokInfo : (Tryd.prog.info? 32).map (fun i => (i.zero, i.size, i.bytes)) = some (some (.agg #[.int .i64 0, .string ⟨#[]⟩, .int .i64 0]), 3, 32) := by kernel_rfl

/-- What Lex hands back. -/
def lexOf (l : List UInt8) : List Tk × Int × Int := if 20000 < l.length then ([], 2, 0) else if lexBad l then ([], 40, (lexPlace l : Int)) else (lexToks l, 0, 0)
def RetTk (w : World) (r : List Tk × Int × Int) (e : Ending) (w' : World) : Prop := ∃ A c, e = .returned (.tuple #[.slice A r.1.length c, .int .i64 r.2.1, .int .i64 r.2.2]) ∧ r.1.length ≤ c ∧ Vals w' w'.heap.size A (flatTk r.1) ∧ Below w.heap.size w w'

/-- What stands when so many items have come. -/
structure LexI (w : World) (ob n0 : Nat) (pre : List (Tk × Bool)) (W : World) : Prop where
  row : ∃ v, Blk W ob 27 #[v] ∧ W.ownsRow n0 32 3 v pre.length (flatTk (pre.map Prod.fst))
  eb : Blk W (ob + 1) 28 #[.int .i64 0]
  ab : Blk W (ob + 2) 3 #[.int .i64 0]
  ok : ∀ x ∈ pre, x.2 = true
  low : Below w.heap.size w W
  n0 : n0 ≤ W.heap.size

theorem blk_keep {W W' : World} {b : Nat} {t : TypeId} {cs : Array Value} {row : Option Nat} (h : Blk W b t cs) (hg : W.grownBy W' row) (hr : ∀ r, row = some r → ∃ o : Obj, W.heap[r]? = some o ∧ o.isCells = false) : Blk W' b t cs := by
  refine h.grown hg fun e => ?_
  obtain ⟨o, ho, hc⟩ := hr b e.symm
  unfold Blk at h
  rw [ho] at h
  cases h
  cases hc
theorem own_keep {W W' : World} {base : Nat} {e : TypeId} {sz n : Nat} {v : Value} {xs : List Value} {row : Option Nat} (h : W.ownsRow base e sz v n xs) (hg : W.grownBy W' row) (hr : ∀ r, row = some r → ∃ o : Obj, W.heap[r]? = some o ∧ o.isCells = false) : W'.ownsRow base e sz v n xs := by
  obtain ⟨h1, h2⟩ := h
  refine ⟨h1, ?_⟩
  rcases h2 with h2 | ⟨g, cap, cur, hv, hgb, hh, r⟩
  · exact .inl h2
  · exact .inr ⟨g, cap, cur, hv, hgb, blk_keep (cs := cur) hh hg hr, r⟩

theorem lexI_own (w : World) (ob n0 : Nat) (hw : w.heap.size ≤ n0) : OwnFrom n0 (LexI w ob n0) := fun pre X Y row hs hg hr => by
  obtain ⟨⟨v, h1, h2⟩, h3, h4, h5, h6, h7⟩ := hs
  exact ⟨⟨v, blk_keep h1 hg (fun r e => (hr r e).2), own_keep h2 hg (fun r e => (hr r e).2)⟩, blk_keep h3 hg (fun r e => (hr r e).2), blk_keep h4 hg (fun r e => (hr r e).2), h5, h6.grown hg h6.size (fun k e => by have := (hr k e).1; omega), by have := hg.size; omega⟩

/-- What stands when the loop has been left. -/
structure LexX (w : World) (ob n0 : Nat) (pre : List (Tk × Bool)) (W : World) : Prop where
  last : ∃ x ∈ pre, x.2 = false ∧ Blk W (ob + 2) 3 #[.int .i64 (x.1.place : Int)]
  row : Blk W ob 27 #[.slice none 0 0]
  eb : Blk W (ob + 1) 28 #[.int .i64 40]
  low : Below w.heap.size w W
theorem lexX_own (w : World) (ob n0 : Nat) (hw : w.heap.size ≤ n0) : OwnFrom n0 (LexX w ob n0) := fun pre X Y row hs hg hr => by
  obtain ⟨⟨x, h1, h2, h3⟩, h4, h5, h6⟩ := hs
  exact ⟨⟨x, h1, h2, blk_keep h3 hg (fun r e => (hr r e).2)⟩, blk_keep h4 hg (fun r e => (hr r e).2), blk_keep h5 hg (fun r e => (hr r e).2), h6.grown hg h6.size (fun k e => by have := (hr k e).1; omega)⟩

theorem items_bad : ∀ (n : Nat) (l : List UInt8) (a : Nat), l.length < n → ∀ x ∈ items l a, x.2 = false → (items l a).find? (fun x => !x.2) = some x
  | 0, l, a, h => by omega
  | n + 1, l, a, h => by
    have hd := dropW_le blankB l
    intro x hx hf
    obtain ⟨k, t, ok, rest, _, e, h1, h2, h3, h4⟩ := firstL_items l a
    rw [e] at hx ⊢
    cases ok with
    | false =>
      rw [h1 rfl] at hx
      have e2 : x = _ := List.mem_singleton.1 hx
      rw [e2]
      rfl
    | true =>
      rcases List.mem_cons.1 hx with rfl | hx
      · cases hf
      · by_cases hk : k = 0
        · rw [h2 hk] at hx
          cases hx
        · obtain ⟨g1, g2⟩ := h4 rfl hk
          rw [g2] at hx ⊢
          exact items_bad n _ _ (by rw [List.length_drop]; omega) x hx hf
theorem items_len : ∀ (n : Nat) (l : List UInt8) (a : Nat), l.length < n → (items l a).length ≤ l.length + 1
  | 0, l, a, h => by omega
  | n + 1, l, a, h => by
    have hd := dropW_le blankB l
    obtain ⟨k, t, ok, rest, _, e, h1, h2, h3, h4⟩ := firstL_items l a
    rw [e]
    cases ok with
    | false =>
      rw [h1 rfl]
      simp
    | true =>
      by_cases hk : k = 0
      · rw [h2 hk]
        simp
      · obtain ⟨g1, g2⟩ := h4 rfl hk
        have := items_len n ((l.dropWhile blankB).drop t.length) (a + (l.length - (l.dropWhile blankB).length) + t.length) (by rw [List.length_drop]; omega)
        rw [g2, List.length_cons]
        rw [List.length_drop] at this
        omega
theorem lexOf_bad {l : List UInt8} (hl : l.length ≤ 20000) {x : Tk × Bool} (hx : x ∈ items l 0) (hf : x.2 = false) : lexOf l = ([], 40, (x.1.place : Int)) := by
  unfold lexOf
  rw [if_neg (by omega)]
  have hb : lexBad l = true := by
    unfold lexBad
    rw [List.any_eq_true]
    exact ⟨x, hx, by simp [hf]⟩
  rw [hb]
  unfold lexPlace
  rw [items_bad _ l 0 (Nat.lt_succ_self _) x hx hf]
  rfl
theorem lexOf_good {l : List UInt8} (hl : l.length ≤ 20000) (hx : ∀ x ∈ items l 0, x.2 = true) : lexOf l = ((items l 0).map Prod.fst, 0, 0) := by
  unfold lexOf
  rw [if_neg (by omega)]
  have hb : lexBad l = false := by
    unfold lexBad
    rw [List.any_eq_false]
    intro x h
    simp [hx x h]
  rw [hb]
  rfl

theorem own_addr {w : World} {base : Nat} {e : TypeId} {sz n c m : Nat} {A : Option Addr} {xs : List Value} (h : w.ownsRow base e sz (.slice A n c) m xs) {g : Nat} (hg : (Value.slice A n c).ownBlock = some g) : A = some ⟨g, 0, none⟩ ∧ base ≤ g ∧ g < w.heap.size := by
  rcases h.2 with ⟨hv, _⟩ | ⟨g', cap, cur, hv, hb, hh, _⟩
  · rw [hv] at hg
    simp [Value.ownBlock] at hg
  · injection hv with hA
    subst hA
    simp [Value.ownBlock] at hg
    subst hg
    exact ⟨rfl, hb, Blk.lt (t := e) (cs := cur) hh⟩
theorem own_cells {w : World} {base : Nat} {e : TypeId} {sz n : Nat} {v : Value} {xs : List Value} (h : w.ownsRow base e sz v n xs) : ∀ (j : Nat) (o : Obj), v.ownBlock = some j → w.heap[j]? = some o → o.isCells = true := by
  intro j o hj ho
  rcases h.2 with ⟨hv, _⟩ | ⟨g', cap, cur, hv, hb, hh, _⟩
  · rw [hv] at hj
    simp [Value.ownBlock] at hj
  · rw [hv] at hj
    simp [Value.ownBlock] at hj
    subst hj
    rw [hh] at ho
    cases ho
    rfl
theorem lexK_push {n0 ob eb ab n c m k6 sz : Nat} {W X w6 : World} {t e : TypeId} {A A6 : Option Addr} {xs ys : List Value} (hX : Below W.heap.size W X) (h1 : Blk W ob t #[.slice A n c]) (hO : X.ownsRow n0 e sz (.slice A n c) n xs)
    (hg : X.grownBy w6 (Value.slice A n c).ownBlock) (hO6 : w6.ownsRow n0 e sz (.slice A6 m k6) m ys) (hat : (Value.slice A6 m k6).ownBlock = (Value.slice A n c).ownBlock ∨ (Value.slice A6 m k6).ownBlock = some X.heap.size) (h6 : Blk w6 ob t #[.slice A n c]) :
    LexK n0 ob eb ab W (w6.setCell ⟨ob, 0, none⟩ (.slice A6 m k6)) := fun hOld => by
  have hY : Blk (w6.setCell ⟨ob, 0, none⟩ (.slice A6 m k6)) ob t #[.slice A6 m k6] := h6.set_ 0 _
  have hsz : (w6.setCell ⟨ob, 0, none⟩ (.slice A6 m k6)).heap.size = w6.heap.size := by simp [World.setCell]
  have hrow : ∀ g, RowAt ob (w6.setCell ⟨ob, 0, none⟩ (.slice A6 m k6)) g → (Value.slice A6 m k6).ownBlock = some g := fun g ⟨o, n', c', h⟩ => by
    rw [hY.cell 0] at h
    simp at h
    rw [h.1]
    rfl
  have h2 : X.heap.size ≤ w6.heap.size := hg.size
  have h3 := hX.size
  refine ⟨fun g hr => ?_, by omega, fun g hr => ?_, fun i cs t' fr hi e1 e2 e3 e4 => ?_⟩
  · obtain ⟨_, q1, q2⟩ := own_addr hO6 (hrow g hr)
    exact ⟨q1, by omega⟩
  · have hb := hrow g hr
    rcases hat with h | h
    · rw [hb] at h
      obtain ⟨q1, _, _⟩ := own_addr hO h.symm
      refine .inl ⟨0, n, c, ?_⟩
      rw [h1.cell 0, q1]
      rfl
    · rw [hb] at h
      injection h with h
      exact .inr (by omega)
  · have hlt := (Array.getElem?_eq_some_iff.1 hi).1
    rw [Below.heap_setCell w6 ⟨ob, 0, none⟩ _ i e1, hg.block i (by omega) (fun h => ?_), hX.block i hlt]
    obtain ⟨q1, _, _⟩ := own_addr hO h.symm
    refine e4 ⟨0, n, c, ?_⟩
    rw [h1.cell 0, q1]
    rfl

set_option maxRecDepth 100000 in
set_option maxHeartbeats 2000000 in
theorem lex_any (s : ByteArray) (hs : s.size ≤ 140737488355328) (w : World) : Calls Tryd.prog 19 #[.string s] w (RetTk w (lexOf s.data.toList)) := by
  have hmf : ∀ (fn : Fn) (first cap : Array Value) (w : World), (Instr.makeFunc fn first cap).run Tryd.prog w = .ok (.func fn first cap) w := fun _ _ _ _ => rfl
  have hsd : s.data.toList.length = s.size := Array.length_toList
  refine (callsIn_wide (n := 3)).1 ?_
  refine callsIn_of_wp_marks Tryd.func19 rfl trivial ?_ rfl
  simp only [Tryd.ntmps19, List.size_toArray, List.length_cons, List.length_nil, Nat.reduceAdd, Nat.reduceSub, Array.replicate_succ, Array.replicate_zero, List.push_toArray, List.append_toArray, List.nil_append, List.cons_append]
  by_cases hlong : 20000 < s.size
  · have hlong' : (20000 : Int) < (s.size : Int) := by omega
    have HL : Hid (lexOf s.data.toList = ([], 2, 0)) := by show lexOf _ = _; unfold lexOf; rw [hsd, if_pos hlong]
    clear hsd
    have hB : Below w.heap.size w (((w.alloc (.cells #[.slice none 0 0] 27)).alloc (.cells #[.int .i64 2] 28)).alloc (.cells #[.int .i64 0] 3)) := step2 (step2 (stepA w _) (stepA _ _)) (stepA _ _)
    have B1 := Blk.new w 27 #[.slice none 0 0]
    replace B1 := (B1.alloc (.cells #[.int .i64 2] 28)).alloc (.cells #[.int .i64 0] 3)
    have B2 := Blk.new (w.alloc (.cells #[.slice none 0 0] 27)) 28 #[.int .i64 2]
    replace B2 := B2.alloc (.cells #[.int .i64 0] 3)
    have B3 := Blk.new ((w.alloc (.cells #[.slice none 0 0] 27)).alloc (.cells #[.int .i64 2] 28)) 3 #[.int .i64 0]
    simp only [World.size_alloc] at B2 B3
    gi_wp2
    have d0 := B1.cell 0
    have d1 := B2.cell 0
    have d2 := B3.cell 0
    refine ⟨.tuple #[.slice none 0 0, .int .i64 2, .int .i64 0], by simp [results, Tryd.results19, go_sem, d0, d1, d2], ?_⟩
    rw [HL.out]
    exact ⟨none, 0, rfl, Nat.le_refl _, Vals.nil, hB⟩
  · have hlong' : ¬ ((20000 : Int) < (s.size : Int)) := by omega
    have hL : lexOf s.data.toList = if lexBad s.data.toList then ([], 40, (lexPlace s.data.toList : Int)) else (lexToks s.data.toList, 0, 0) := by unfold lexOf; rw [hsd, if_neg hlong]
    have HL := Lib.hid hL
    have B1 := Blk.new w 27 #[.slice none 0 0]
    replace B1 := (B1.alloc (.cells #[.int .i64 0] 28)).alloc (.cells #[.int .i64 0] 3)
    have B2 := Blk.new (w.alloc (.cells #[.slice none 0 0] 27)) 28 #[.int .i64 0]
    replace B2 := B2.alloc (.cells #[.int .i64 0] 3)
    have B3 := Blk.new ((w.alloc (.cells #[.slice none 0 0] 27)).alloc (.cells #[.int .i64 0] 28)) 3 #[.int .i64 0]
    have B4 := Blk.new (((w.alloc (.cells #[.slice none 0 0] 27)).alloc (.cells #[.int .i64 0] 28)).alloc (.cells #[.int .i64 0] 3)) 9 #[.string s]
    have hB0 : Below w.heap.size w ((((w.alloc (.cells #[.slice none 0 0] 27)).alloc (.cells #[.int .i64 0] 28)).alloc (.cells #[.int .i64 0] 3)).alloc (.cells #[.string s] 9)) := step2 (step2 (step2 (stepA w _) (stepA _ _)) (stepA _ _)) (stepA _ _)
    simp only [World.size_alloc] at B2 B3 B4
    replace B1 := B1.alloc (.cells #[.string s] 9)
    replace B2 := B2.alloc (.cells #[.string s] 9)
    replace B3 := B3.alloc (.cells #[.string s] 9)
    have hsz : ((((w.alloc (.cells #[.slice none 0 0] 27)).alloc (.cells #[.int .i64 0] 28)).alloc (.cells #[.int .i64 0] 3)).alloc (.cells #[.string s] 9)).heap.size = w.heap.size + 4 := by simp
    clear hsd hL
    gi_wp2_with (refine ⟨trivial, ?_⟩; gi_at_call 34; refine (tokens_in Fence.wide 2 trivial rfl _ _).mono ?_; rintro e w' ⟨rfl, rfl⟩)
    obtain ⟨W0, hW0⟩ : ∃ W0, ((((w.alloc (.cells #[.slice none 0 0] 27)).alloc (.cells #[.int .i64 0] 28)).alloc (.cells #[.int .i64 0] 3)).alloc (.cells #[.string s] 9)) = W0 := ⟨_, rfl⟩
    rw [hW0] at B1 B2 B3 B4 hB0 hsz ⊢
    clear hW0
    have hws : w.heap.size ≤ W0.heap.size := by omega
    have HI0 : Hid (LexI w w.heap.size W0.heap.size [] W0) := Lib.hid ⟨⟨_, B1, World.ownsRow_nil _ _ _ _⟩, B2, B3, (fun x h => by cases h), hB0, Nat.le_refl _⟩
    have hlen : s.data.toList.length ≤ 20000 := by rw [show s.data.toList.length = s.size from Array.length_toList]; omega
    have HLen := Lib.hid hlen
    have hsz' : w.heap.size + 4 ≤ W0.heap.size := by omega
    clear hlen hsz
    refine wpIn_rangeFunc_ownH (w := W0) rfl (by omega) (gf := 54) (lb := #[.pointer (some ⟨w.heap.size + 1 + 1 + 1, 0, none⟩)]) rfl trivial (enters_of Tryd.func54 (by kernel_rfl) rfl)
      (tokens_stops 2 (by omega) s (by omega) (w.heap.size + 1 + 1 + 1) w.heap.size (w.heap.size + 1) (w.heap.size + 2) W0 (by omega) (by omega) (by omega) (B1.cell 0) B4)
      LexK.trans (fun W l o o' hl h hc _ => LexK.putObj (by omega) h hc) (Below.refl _ _) (fun _ => rfl)
      (LexI w w.heap.size W0.heap.size) (fun c pre W => c = .ret ∧ LexX w w.heap.size W0.heap.size pre W)
      (lexI_own w _ _ hws) (fun c s A B row hs hg hr => ⟨hs.1, lexX_own w _ _ hws s A B row hs.2 hg hr⟩) HI0.out
      (fun x a' W => ∃ Bx, W0.heap.size ≤ Bx ∧ Blk W Bx 32 (tkCells x.1).toArray ∧ a' = { tmps := #[.string s, undef, .pointer (some ⟨w.heap.size, 0, none⟩), .pointer (some ⟨w.heap.size + 1, 0, none⟩), .pointer (some ⟨w.heap.size + 1 + 1, 0, none⟩), .pointer (some ⟨Bx, 0, none⟩), .bool x.2, .string s, .int .i64 (s.size : Int), .bool false, .string s, .func (.func 54) #[] #[.pointer (some ⟨w.heap.size + 1 + 1 + 1, 0, none⟩)], .agg (tkCells x.1).toArray, .bool x.2, undef, undef, undef, undef, undef, undef, undef, undef, undef], defers := [] })
      (fun x a' _ X Y row hs hg hr => by obtain ⟨Bx, h1, h2, h3⟩ := hs; exact ⟨Bx, h1, blk_keep h2 hg (fun r e => (hr r e).2), h3⟩)
      ?assign ?body ?done ?stop
    case assign =>
      rintro l' pre x W K HI hK
      have hst := stepA W (.cells (tkCells x.1).toArray 32)
      have hI2 : LexI w w.heap.size W0.heap.size pre (W.alloc (.cells (tkCells x.1).toArray 32)) :=
        lexI_own w _ _ hws pre _ _ none HI ⟨hst.os, hst.tape, hst.output, hst.size, fun i hi _ => hst.block i hi⟩ (fun r e => by cases e)
      have hkk : LexK W0.heap.size w.heap.size (w.heap.size + 1) (w.heap.size + 2) W (W.alloc (.cells (tkCells x.1).toArray 32)) := LexK.below (by have := HI.n0; omega) hst
      have hbn : W0.heap.size ≤ W.heap.size := HI.n0
      unfold encTk
      gi_wp2
      exact hK _ _ ((KeepsOthers.alloc _ _).from _) hkk hI2 ⟨W.heap.size, hbn, Blk.new W _ _, rfl⟩
    case body =>
      rintro l' pre ⟨⟨kd, tx, pl⟩, ok⟩ a' W hl' ⟨r, hr⟩ HI ⟨Bx, hBx, bX, rfl⟩ hlt
      have hil := items_len _ s.data.toList 0 (Nat.lt_succ_self _)
      have hLen := HLen.out
      have cX0 : W.cell? ⟨Bx, 0, none⟩ = some (.int .i64 kd) := bX.cell 0
      have cX1 : W.cell? ⟨Bx, 1, none⟩ = some (.string ⟨tx.toArray⟩) := bX.cell 1
      have cX2 : W.cell? ⟨Bx, 2, none⟩ = some (.int .i64 (pl : Int)) := bX.cell 2
      obtain ⟨v, hv1, hv2⟩ := HI.row
      have hvc : W.cell? ⟨w.heap.size, 0, none⟩ = some v := hv1.cell 0
      have hvf : W.frozen? ⟨w.heap.size, 0, none⟩ = false := hv1.frozen 0
      cases ok with
      | false =>
        have hec : W.cell? ⟨w.heap.size + 1, 0, none⟩ = some (.int .i64 0) := HI.eb.cell 0
        have hef : W.frozen? ⟨w.heap.size + 1, 0, none⟩ = false := HI.eb.frozen 0
        have hac : W.cell? ⟨w.heap.size + 1 + 1, 0, none⟩ = some (.int .i64 0) := HI.ab.cell 0
        have haf : W.frozen? ⟨w.heap.size + 1 + 1, 0, none⟩ = false := HI.ab.frozen 0
        have HSS : Hid (∀ (j : Nat) (W' : World) (u : Value), j ≤ 2 → W'.cell? ⟨Bx, 2, none⟩ = some (.int .i64 (pl : Int)) → (W'.setCell ⟨w.heap.size + j, 0, none⟩ u).cell? ⟨Bx, 2, none⟩ = some (.int .i64 (pl : Int))) := fun j W' u hj h => by
          rw [World.cell?_setCell_far _ _ _ _ (by simp; omega)]
          exact h
        have hb0 := HI.row
        have HE := Lib.hid HI
        have hWs := HI.low.size
        gi_wp2
        refine wpIn_region_noPanic ?_
        refine wpIn_region_seq (fun W => W.cell? ⟨Bx, 2, none⟩ = some (.int .i64 (pl : Int))) [0, 1, 2, 3, 4] [0, 1] [] (by kernel_rfl) (by kernel_rfl) (by kernel_rfl) rfl (by kernel_rfl) (by kernel_rfl) (fun _ _ _ _ _ h => h) ?_ (fun hSS => ?_)
        · exact cX2
        (refine wpSeqIn_mov rfl rfl ?_; intro o ho; simp only [List.getElem?_toArray, List.getElem?_cons_zero, List.getElem?_cons_succ, Option.some.injEq] at ho; subst ho; refine ⟨?_, fun _ _ => rfl⟩; refine ⟨?_, Or.inl ⟨by rfl, fun W hSW => ?_⟩, ?_⟩; rotate_left; (focus (go_simp; first | done | with_reducible rfl)); try simp only [Act.put, List.setIfInBounds_toArray, List.set_cons_zero, List.set_cons_succ])
        (refine wpSeqIn_mov rfl rfl ?_; intro o ho; simp only [List.getElem?_toArray, List.getElem?_cons_zero, List.getElem?_cons_succ, Option.some.injEq] at ho; subst ho; refine ⟨?_, fun _ _ => rfl⟩; refine ⟨?_, Or.inl ⟨by rfl, fun W hSW => ?_⟩, ?_⟩; rotate_left; (focus (go_simp; first | done | with_reducible rfl)); try simp only [Act.put, List.setIfInBounds_toArray, List.set_cons_zero, List.set_cons_succ])
        (refine wpSeqIn_fix rfl rfl ?_; intro o ho; simp only [List.getElem?_toArray, List.getElem?_cons_zero, List.getElem?_cons_succ, Option.some.injEq] at ho; subst ho; intro K hK)
        go_simp
        (refine hK.out _ _ (fun _ => HSS.out 0 _ _ (by omega) hSS) ?_; clear hK K; try simp only [Act.put, List.setIfInBounds_toArray, List.set_cons_zero, List.set_cons_succ])
        (refine wpSeqIn_fix rfl rfl ?_; intro o ho; simp only [List.getElem?_toArray, List.getElem?_cons_zero, List.getElem?_cons_succ, Option.some.injEq] at ho; subst ho; intro K hK)
        go_simp
        (refine hK.out _ _ (fun _ => HSS.out 1 _ _ (by omega) (HSS.out 0 _ _ (by omega) hSS)) ?_; clear hK K; try simp only [Act.put, List.setIfInBounds_toArray, List.set_cons_zero, List.set_cons_succ])
        (refine wpSeqIn_fix rfl rfl ?_; intro o ho; simp only [List.getElem?_toArray, List.getElem?_cons_zero, List.getElem?_cons_succ, Option.some.injEq] at ho; subst ho; intro K hK)
        go_simp
        (refine hK.out _ _ (fun _ => HSS.out 2 _ _ (by omega) (HSS.out 1 _ _ (by omega) (HSS.out 0 _ _ (by omega) hSS))) ?_; clear hK K; try simp only [Act.put, List.setIfInBounds_toArray, List.set_cons_zero, List.set_cons_succ])
        refine wpSeqIn_done ?_
        gi_wp2
        have hK1 : KeepsOthers W ((((W.setCell ⟨w.heap.size, 0, none⟩ (.slice none 0 0)).setCell ⟨w.heap.size + 1, 0, none⟩ (.int .i64 40)).setCell ⟨w.heap.size + 1 + 1, 0, none⟩ (.int .i64 (pl : Int))).drew) :=
          (((KeepsOthers.setCell _ _ _).trans (KeepsOthers.setCell _ _ _)).trans (KeepsOthers.setCell _ _ _)).trans (KeepsOthers.drew _)
        refine ⟨hK1.from _, rfl, ⟨⟨(⟨kd, tx, pl⟩, false), by simp, rfl, ?_⟩, ?_, ?_, ?_⟩⟩
        · exact ((HE.out.ab.far (p := ⟨w.heap.size, 0, none⟩) (by simp) _).far (p := ⟨w.heap.size + 1, 0, none⟩) (by simp) _).set_ 0 _
        · exact ((hv1.set_ 0 (.slice none 0 0)).far (p := ⟨w.heap.size + 1, 0, none⟩) (by simp) _).far (p := ⟨w.heap.size + 1 + 1, 0, none⟩) (by simp; omega) _
        · exact ((HE.out.eb.far (p := ⟨w.heap.size, 0, none⟩) (by simp) _).set_ 0 _).far (p := ⟨w.heap.size + 1 + 1, 0, none⟩) (by simp) _
        · exact (((HE.out.low.setCell (p := ⟨w.heap.size, 0, none⟩) (by simp) _).setCell (p := ⟨w.heap.size + 1, 0, none⟩) (by simp) _).setCell (p := ⟨w.heap.size + 1 + 1, 0, none⟩) (by simp; omega) _).drew
      | true =>
        obtain ⟨i0, hi0, hz0, hz1, hz2⟩ := info_parts tokInfo
        have HE := Lib.hid HI
        have hWs := HI.low.size
        have hn0 := HI.n0
        have hV := stepA W (.cells #[.int .i64 kd, .string ⟨tx.toArray⟩, .int .i64 (pl : Int)] 32)
        obtain ⟨A, c, rfl, hcn⟩ := own_form hv2
        have HOwn := Lib.hid (own_below hv2 hV)
        have HVB : Hid (Blk (W.alloc (.cells #[.int .i64 kd, .string ⟨tx.toArray⟩, .int .i64 (pl : Int)] 32)) w.heap.size 27 #[.slice A pre.length c]) := Lib.hid (hv1.alloc _)
        have HV := Lib.hid hV
        have hne : (32 : Nat) ≠ 27 := by decide
        have hpl : pre.length ≤ 20001 := by omega
        clear hV
        gi_wp2_with ((gi_at_builtin; go_loud (refine wpListIn_append_own_at (o := ⟨some 21, _, _, _, _, _⟩) _ rfl (.tmp 18) (.tmp 20) _ rfl W0.heap.size 32 i0 _ 3 32 Tryd.underlying27 hi0 hz0 hz1 hz2 rfl (by omega) (.slice A pre.length c) pre.length (flatTk (pre.map Prod.fst)) rfl HOwn.out _ 1 1 (tkCells ⟨kd, tx, pl⟩) rfl rfl (cells_new W (tkCells ⟨kd, tx, pl⟩) 32) (by intro u hu; simp [tkCells] at hu; rcases hu with rfl | rfl | rfl <;> rfl) (by unfold maxLen; omega) (by omega) (by simp; omega) ?_); intro v6 w6 hown6 hg6 _ hat6; go_loud (have hk6 := HVB.out.by_ hg6 (own_ne HOwn.out HVB.out hne)); go_loud (have c6 : w6.cell? ⟨w.heap.size, 0, none⟩ = some (.slice A pre.length c) := hk6.cell 0); go_loud (obtain ⟨A6, k6, hv6, hkc6⟩ := own_form hown6); go_loud (rw [hv6] at hown6 hat6 ⊢); clear hv6; go_loud (have f6 := hk6.frozen 0); have HG6 := Lib.hid hg6; have HO6 := Lib.hid hown6; have HK6 := Lib.hid hk6; have HA6 := Lib.hid hat6; clear hg6 hown6 hk6 hat6))
        have hY : Below w.heap.size W (w6.setCell ⟨w.heap.size, 0, none⟩ (.slice A6 (pre.length + 1) k6)) := (((HV.out.mono hWs).grown HG6.out (by have := HV.out.size; omega) (fun k hk => by have := (own_addr HOwn.out hk).2.1; omega)).setCell (p := ⟨w.heap.size, 0, none⟩) (by simp) _)
        refine ⟨(((KeepsOthers.alloc _ _).trans (KeepsOthers.of_grownBy HG6.out (own_cells HOwn.out))).trans (KeepsOthers.setCell _ _ _)).from _, lexK_push HV.out hv1 HOwn.out HG6.out HO6.out HA6.out HK6.out, ⟨⟨_, HK6.out.set_ 0 _, ?_⟩, ?_, ?_, ?_, HE.out.low.trans hY, by have := hY.size; omega⟩⟩
        · have e : flatTk (List.map Prod.fst (pre ++ [((⟨kd, tx, pl⟩, true) : Tk × Bool)])) = flatTk (List.map Prod.fst pre) ++ tkCells ⟨kd, tx, pl⟩ := by
            rw [List.map_append, flatTk_append]
            simp [flatTk]
          rw [e, List.length_append]
          exact own_set HO6.out HK6.out hne 0 _
        · exact ((HE.out.eb.alloc _).by_ HG6.out (own_ne HOwn.out (HE.out.eb.alloc _) (by decide))).far (p := ⟨w.heap.size, 0, none⟩) (by simp) _
        · exact ((HE.out.ab.alloc _).by_ HG6.out (own_ne HOwn.out (HE.out.ab.alloc _) (by decide))).far (p := ⟨w.heap.size, 0, none⟩) (by simp) _
        · intro x hx
          rcases List.mem_append.1 hx with hx | hx
          · exact HE.out.ok x hx
          · rw [List.mem_singleton.1 hx]
    case done =>
      rintro D ys W hD rfl HI hK
      obtain ⟨v, hv1, hv2⟩ := HI.row
      obtain ⟨A, c, rfl, hcn⟩ := own_form hv2
      have cv : W.cell? ⟨w.heap.size, 0, none⟩ = some (.slice A (items s.data.toList 0).length c) := hv1.cell 0
      have fv : W.frozen? ⟨w.heap.size, 0, none⟩ = false := hv1.frozen 0
      have hec : W.cell? ⟨w.heap.size + 1, 0, none⟩ = some (.int .i64 0) := HI.eb.cell 0
      have hef : W.frozen? ⟨w.heap.size + 1, 0, none⟩ = false := HI.eb.frozen 0
      have hac : W.cell? ⟨w.heap.size + 1 + 1, 0, none⟩ = some (.int .i64 0) := HI.ab.cell 0
      have haf : W.frozen? ⟨w.heap.size + 1 + 1, 0, none⟩ = false := HI.ab.frozen 0
      have HE := Lib.hid HI
      have hws2 := HI.low.size
      gi_wp2
      have hY : Below w.heap.size w (((W.setCell ⟨w.heap.size, 0, none⟩ (.slice A (items s.data.toList 0).length c)).setCell ⟨w.heap.size + 1, 0, none⟩ (.int .i64 0)).setCell ⟨w.heap.size + 1 + 1, 0, none⟩ (.int .i64 0)) :=
        ((HE.out.low.setCell (p := ⟨w.heap.size, 0, none⟩) (by simp) _).setCell (p := ⟨w.heap.size + 1, 0, none⟩) (by simp) _).setCell (p := ⟨w.heap.size + 1 + 1, 0, none⟩) (by simp; omega) _
      have k1 := ((hv1.set_ 0 (.slice A (items s.data.toList 0).length c)).far (p := ⟨w.heap.size + 1, 0, none⟩) (by simp) (.int .i64 0)).far (p := ⟨w.heap.size + 1 + 1, 0, none⟩) (by simp; omega) (.int .i64 0)
      have k2 := ((HE.out.eb.far (p := ⟨w.heap.size, 0, none⟩) (by simp) (.slice A (items s.data.toList 0).length c)).set_ 0 (.int .i64 0)).far (p := ⟨w.heap.size + 1 + 1, 0, none⟩) (by simp) (.int .i64 0)
      have k3 := ((HE.out.ab.far (p := ⟨w.heap.size, 0, none⟩) (by simp) (.slice A (items s.data.toList 0).length c)).far (p := ⟨w.heap.size + 1, 0, none⟩) (by simp) (.int .i64 0)).set_ 0 (.int .i64 0)
      have o1 := own_set hv2 hv1 (by decide) 0 (.slice A (items s.data.toList 0).length c)
      have o2 := own_set o1 (HE.out.eb.far (p := ⟨w.heap.size, 0, none⟩) (by simp) _) (by decide) 0 (.int .i64 0)
      have o3 := own_set o2 ((HE.out.ab.far (p := ⟨w.heap.size, 0, none⟩) (by simp) _).far (p := ⟨w.heap.size + 1, 0, none⟩) (by simp) _) (by decide) 0 (.int .i64 0)
      have hD' : (((W.setCell ⟨w.heap.size, 0, none⟩ (.slice A (items s.data.toList 0).length c)).setCell ⟨w.heap.size + 1, 0, none⟩ (.int .i64 0)).setCell ⟨w.heap.size + 1 + 1, 0, none⟩ (.int .i64 0)).heap[D]? = some (.deferred (some [])) := by
        rw [Below.heap_setCell _ _ _ D (by simp; omega), Below.heap_setCell _ _ _ D (by simp; omega), Below.heap_setCell _ _ _ D (by simp; omega)]
        exact hK
      generalize ((W.setCell ⟨w.heap.size, 0, none⟩ (.slice A (items s.data.toList 0).length c)).setCell ⟨w.heap.size + 1, 0, none⟩ (.int .i64 0)).setCell ⟨w.heap.size + 1 + 1, 0, none⟩ (.int .i64 0) = Y at hY k1 k2 k3 o3 hD' ⊢
      refine ⟨by simp, .inl ⟨_, _, rfl, run_takeDeferred hD', ?_⟩⟩
      have d0 : (Y.putObj D (.deferred none)).cell? ⟨w.heap.size, 0, none⟩ = some (.slice A (items s.data.toList 0).length c) := (blk_put k1 hD' rfl).cell 0
      have d1 : (Y.putObj D (.deferred none)).cell? ⟨w.heap.size + 1, 0, none⟩ = some (.int .i64 0) := (blk_put k2 hD' rfl).cell 0
      have d2 : (Y.putObj D (.deferred none)).cell? ⟨w.heap.size + 1 + 1, 0, none⟩ = some (.int .i64 0) := (blk_put k3 hD' rfl).cell 0
      refine ⟨.tuple #[.slice A (items s.data.toList 0).length c, .int .i64 0, .int .i64 0], by simp [results, Tryd.results19, go_sem, d0, d1, d2], ?_⟩
      rw [lexOf_good HLen.out HE.out.ok]
      have o4 := own_keep o3 (grownBy_putObj' Y D (.deferred none)) (fun r e => by cases e; exact ⟨_, hD', rfl⟩)
      refine ⟨A, c, by rw [List.length_map], by rw [List.length_map]; exact hcn, Vals.of_own o4, hY.trans (belowK_b (w := w) (Nat.le_refl _) Y D _ _ (by omega) hD' rfl rfl)⟩
    case stop =>
      rintro D c' pre W hD ⟨k, hk, rfl⟩ ⟨rfl, HX⟩ hK
      obtain ⟨x, hx, hxf, hx2⟩ := HX.last
      have hxi : x ∈ items s.data.toList 0 := List.mem_of_mem_take hx
      have HLX := Lib.hid (lexOf_bad HLen.out hxi hxf)
      have d0 : (W.putObj D (.deferred none)).cell? ⟨w.heap.size, 0, none⟩ = some (.slice none 0 0) := (blk_put HX.row hK rfl).cell 0
      have d1 : (W.putObj D (.deferred none)).cell? ⟨w.heap.size + 1, 0, none⟩ = some (.int .i64 40) := (blk_put HX.eb hK rfl).cell 0
      have d2 : (W.putObj D (.deferred none)).cell? ⟨w.heap.size + 1 + 1, 0, none⟩ = some (.int .i64 (x.1.place : Int)) := (blk_put hx2 hK rfl).cell 0
      have hY := HX.low
      gi_wp2
      refine ⟨by simp, .inl ⟨_, _, rfl, run_takeDeferred hK, ?_⟩⟩
      refine ⟨.tuple #[.slice none 0 0, .int .i64 40, .int .i64 (x.1.place : Int)], by simp [results, Tryd.results19, go_sem, d0, d1, d2], ?_⟩
      rw [HLX.out]
      exact ⟨none, 0, rfl, Nat.le_refl _, Vals.nil, hY.trans (belowK_b (w := w) (Nat.le_refl _) W D _ _ (by omega) hK rfl rfl)⟩
end Go.Proofs.YtijecfmblddanaaDoor
