/- Numbers of 16 bits as cells. Clauses that a call makes one by one: a row of its own, of slices that have room. Clauses by numbers, assumed literals by numbers: plain data. Layer 15: few. Layer 15: Made. -/
import Derived.Test.YtbkmgblijncjhaaG1
import Derived.Test.YtbkmgblijncjhaaProg
import Derived.Test.YtbkmgblijncjhaaG6
namespace Go.Proofs.Ytbkmgblijncjhaa
open Go.RowKit Go.Maps

/-- The numbers of a list, as cells. -/
def u16s (xs : List Int) : List Value := xs.map (.int .u16 ·)
/-- Numbers of 16 bits. -/
def U16 (xs : List Int) : Prop := ∀ x ∈ xs, 0 ≤ x ∧ x ≤ 65535

theorem u16s_at {xs : List Int} {i : Nat} {x : Int} (h : xs[i]? = some x) : (u16s xs)[i]? = some (.int .u16 x) := by
  unfold u16s
  rw [List.getElem?_map, h]
  rfl

end Go.Proofs.Ytbkmgblijncjhaa

set_option linter.unusedVariables false
set_option linter.unusedSimpArgs false
namespace Go.Proofs.Ytbkmgblijncjhaa
open Go.RowKit Go.Maps

/-- A block of numbers that begins so. -/
def HasI (w : World) (b : Nat) (l : List Int) : Prop := ∃ cs : Array Value, Blk w b 3 cs ∧ ∀ (i : Nat) x, l[i]? = some x → cs[i]? = some (.int .i64 x)
section
variable {w w' : World} {b : Nat} {l : List Int}
theorem HasI.below (h : HasI w b l) (hb : Below w.heap.size w w') : HasI w' b l := by
  obtain ⟨cs, h1, h2⟩ := h
  exact ⟨cs, h1.below hb h1.lt, h2⟩
theorem HasI.by_ (h : HasI w b l) {row : Option Nat} (hg : w.grownBy w' row) (hr : ∀ k, row = some k → k ≠ b) : HasI w' b l := by
  obtain ⟨cs, h1, h2⟩ := h
  exact ⟨cs, h1.by_ hg hr, h2⟩
theorem HasI.far (h : HasI w b l) {p : Addr} (hp : b ≠ p.block) (u : Value) : HasI (w.setCell p u) b l := by
  obtain ⟨cs, h1, h2⟩ := h
  exact ⟨cs, h1.far hp u, h2⟩
theorem HasI.of_blk (h : Blk w b 3 (i64s l).toArray) : HasI w b l := ⟨_, h, fun i x hx => by
  have := i64s_at hx
  simpa using this⟩
theorem HasI.ne {t : TypeId} {cs : Array Value} {b' : Nat} (h : HasI w b l) (hb : Blk w b' t cs) (hne : 3 ≠ t) : b ≠ b' := by
  obtain ⟨cs', h1, _⟩ := h
  rintro rfl
  unfold Blk at h1 hb
  rw [h1] at hb
  injection hb with hb
  injection hb with _ hb
  exact hne hb
theorem HasI.own_ne {e : TypeId} {base sz n : Nat} {v : Value} {xs : List Value} (h : HasI w b l) (ho : w.ownsRow base e sz v n xs) (hne : e ≠ 3) : ∀ k, v.ownBlock = some k → k ≠ b := by
  obtain ⟨cs', h1, _⟩ := h
  exact Go.Proofs.Ytbkmgblijncjhaa.own_ne ho h1 hne
theorem HasI.of_own {base c : Nat} {A : Option Addr} (h : w.ownsRow base 3 1 (.slice A l.length c) l.length (i64s l)) (hl : 0 < l.length) : ∃ g, A = some ⟨g, 0, none⟩ ∧ base ≤ g ∧ l.length ≤ c ∧ HasI w g l := by
  rcases h.2 with ⟨_, h0⟩ | ⟨g, cap, cur, hv, hg, hh, hnc, hcm, hcs, htk⟩
  · omega
  · injection hv with hA _ hc
    subst hA hc
    refine ⟨g, rfl, hg, hnc, cur, hh, fun i x hx => ?_⟩
    have hi : i < l.length := (List.getElem?_eq_some_iff.1 hx).1
    have := i64s_at hx
    rw [← htk, List.getElem?_take, if_pos (by omega)] at this
    simpa using this
theorem HasI.lt (h : HasI w b l) : b < w.heap.size := by
  obtain ⟨cs, h1, _⟩ := h
  exact h1.lt
theorem HasI.vals (h : HasI w b l) : Vals w w.heap.size (some ⟨b, 0, none⟩) (i64s l) := fun i u hu => by
  obtain ⟨cs, h1, h2⟩ := h
  unfold i64s at hu
  rw [List.getElem?_map] at hu
  obtain ⟨x, hx, rfl⟩ := Option.map_eq_some_iff.1 hu
  exact ⟨b, 0, rfl, h1.lt, by rw [h1.cell (0 + i), Nat.zero_add]; exact h2 i x hx⟩
end

abbrev Ks := List (Nat × Nat × List Int)
def slotK (z : Nat × Nat × List Int) : Value := .slice (some ⟨z.1, 0, none⟩) z.2.2.length z.2.1
/-- A row of clauses of the call's own. -/
structure KB (w : World) (base : Nat) (A : Option Addr) (c : Nat) (zs : Ks) : Prop where
  own : w.ownsRow base 25 1 (.slice A zs.length c) zs.length (zs.map slotK)
  inner : ∀ z ∈ zs, z.2.2.length ≤ z.2.1 ∧ HasI w z.1 z.2.2

section
variable {w w' : World} {base : Nat} {A : Option Addr} {c : Nat} {zs : Ks}
theorem KB.nil (w : World) (base : Nat) : KB w base none 0 [] := ⟨⟨by simp, .inl ⟨rfl, rfl⟩⟩, fun z hz => by cases hz⟩
theorem KB.step (h : KB w base A c zs) (hb : Below w.heap.size w w') : KB w' base A c zs := ⟨own_below h.own hb, fun z hz => ⟨(h.inner z hz).1, (h.inner z hz).2.below hb⟩⟩
theorem slotK_one (zs : Ks) : ∀ u ∈ zs.map slotK, u.oneCell' = true := by
  intro u hu
  obtain ⟨z, _, rfl⟩ := List.mem_map.1 hu
  rfl
theorem KB.cap (h : KB w base A c zs) : zs.length ≤ c := own_cap h.own
/-- The row grows by clauses that lie there already. -/
theorem KB.grow (h : KB w base A c zs) {A' : Option Addr} {c' : Nat} {ys : Ks} (hg : w.grownBy w' (Value.slice A zs.length c).ownBlock)
    (ho : w'.ownsRow base 25 1 (.slice A' (zs ++ ys).length c') (zs ++ ys).length ((zs ++ ys).map slotK)) (hy : ∀ y ∈ ys, y.2.2.length ≤ y.2.1 ∧ HasI w y.1 y.2.2) : KB w' base A' c' (zs ++ ys) := by
  refine ⟨ho, fun z hz => ?_⟩
  have hb : z.2.2.length ≤ z.2.1 ∧ HasI w z.1 z.2.2 := by
    rcases List.mem_append.1 hz with h1 | h1
    · exact h.inner z h1
    · exact hy z h1
  exact ⟨hb.1, hb.2.by_ hg (hb.2.own_ne h.own (by decide))⟩
/-- Another row of numbers grows. -/
theorem KB.aside (h : KB w base A c zs) {base' sz n : Nat} {v : Value} {xs : List Value} (ho : w.ownsRow base' 3 sz v n xs) (hz : ∀ z ∈ zs, ∀ k, v.ownBlock = some k → k ≠ z.1) (hg : w.grownBy w' v.ownBlock) : KB w' base A c zs := by
  refine ⟨h.own.kept hg ?_, fun z hz' => ⟨(h.inner z hz').1, (h.inner z hz').2.by_ hg (hz z hz')⟩⟩
  cases e : (Value.slice A zs.length c).ownBlock with
  | none => exact .inl rfl
  | some k =>
    refine .inr fun e' => ?_
    rcases h.own.2 with ⟨h1, _⟩ | ⟨g, cap, cur, hv, hgb, hh, _⟩
    · rw [h1] at e
      simp [Value.ownBlock] at e
    · rw [hv] at e
      simp [Value.ownBlock] at e
      subst e
      exact Go.Proofs.Ytbkmgblijncjhaa.own_ne ho (t := 25) (cs := cur) hh (by decide) g e'.symm rfl
theorem KB.set (h : KB w base A c zs) {b : Nat} {t : TypeId} {cs : Array Value} (hb : Blk w b t cs) (h1 : 25 ≠ t) (h2 : 3 ≠ t) (i : Nat) (u : Value) : KB (w.setCell ⟨b, i, none⟩ u) base A c zs :=
  ⟨own_set h.own hb h1 i u, fun z hz => ⟨(h.inner z hz).1, (h.inner z hz).2.far (p := ⟨b, i, none⟩) ((h.inner z hz).2.ne hb h2) u⟩⟩
theorem KB.cls (h : KB w base A c zs) : Cls w w.heap.size A (zs.map (·.2.2)) := fun i x hi => by
  rw [List.getElem?_map] at hi
  obtain ⟨z, hz, rfl⟩ := Option.map_eq_some_iff.1 hi
  have hv := Vals.of_own h.own
  obtain ⟨b, o, e, hb, hc⟩ := hv i (slotK z) (by rw [List.getElem?_map, hz]; rfl)
  have hin := h.inner z (List.mem_of_getElem? hz)
  exact ⟨b, o, _, _, e, hb, hc, hin.1, hin.2.vals⟩
end

theorem rowInfoK : (Try.prog.info? 25).map (fun i => (i.zero, i.size, i.bytes)) = some (some (.slice none 0 0), 1, 24) := by kernel_rfl
theorem intInfoK : (Try.prog.info? 3).map (fun i => (i.zero, i.size, i.bytes)) = some (some (.int .i64 0), 1, 8) := by kernel_rfl
/-- The call hands back clauses. -/
def RetC (w : World) (V : Int) (cs : List (List Int)) (e : Ending) (w' : World) : Prop :=
  ∃ A c, e = .returned (.agg #[.int .i64 V, .slice A cs.length c]) ∧ Cls w' w'.heap.size A cs ∧ cs.length ≤ c ∧ Below w.heap.size w w'
end Go.Proofs.Ytbkmgblijncjhaa

set_option linter.unusedVariables false
namespace Go.Proofs.Ytbkmgblijncjhaa

def litK (V x : Int) (j : Nat) : Int := if x / 2 ^ (j + 9) % 2 = 1 then -(1 + x / 2 ^ (3 * j) % V) else 1 + x / 2 ^ (3 * j) % V
def clauseK (V x : Int) : List Int := (List.range (1 + (x % 7 / 2).toNat)).map (litK V x)
def madeK (V : Int) (xs : List Int) : List (List Int) := (xs.take 40).map (clauseK V)

theorem litK_ok {V x : Int} (j : Nat) (hV : 1 ≤ V) : litK V x j ≠ 0 ∧ litK V x j ≤ V ∧ -V ≤ litK V x j := by
  have h1 := Int.emod_nonneg (x / 2 ^ (3 * j)) (by omega : V ≠ 0)
  have h2 := Int.emod_lt_of_pos (x / 2 ^ (3 * j)) (by omega : 0 < V)
  unfold litK
  split <;> omega
theorem clauseK_len (V x : Int) (hx : 0 ≤ x) : (clauseK V x).length = (1 + x % 7 / 2).toNat ∧ (clauseK V x).length ≤ 4 := by
  unfold clauseK
  rw [List.length_map, List.length_range]
  omega
theorem clauseK_ok {V x : Int} (hV : 1 ≤ V) : ∀ y ∈ clauseK V x, y ≠ 0 ∧ y ≤ V ∧ -V ≤ y := by
  intro y hy
  obtain ⟨j, _, rfl⟩ := List.mem_map.1 hy
  exact litK_ok j hV
theorem madeK_len (V : Int) (xs : List Int) : (madeK V xs).length ≤ 40 := by
  unfold madeK
  rw [List.length_map, List.length_take]
  omega
theorem madeK_small {V : Int} {xs : List Int} (hx : ∀ x ∈ xs, 0 ≤ x ∧ x ≤ 65535) : ∀ c ∈ madeK V xs, c.length ≤ 4 := by
  intro c hc
  obtain ⟨x, h1, rfl⟩ := List.mem_map.1 hc
  exact (clauseK_len V x (hx x (List.mem_of_mem_take h1)).1).2
theorem madeK_right {V : Int} {xs : List Int} (hV : 1 ≤ V) (h2 : V ≤ 2000) : rightC V (madeK V xs) = true :=
  rightC_iff.2 ⟨by omega, h2, by have := madeK_len V xs; omega, fun c hc x hx => by
    obtain ⟨y, _, rfl⟩ := List.mem_map.1 hc
    exact clauseK_ok hV x hx⟩

/-- Assumed literals by numbers. -/
def fewK (V : Int) (xs : List Int) : List Int := (xs.take 4).map fun x => if x % 2 = 1 then -(1 + x / 2 % V) else 1 + x / 2 % V
theorem fewK_len (V : Int) (xs : List Int) : (fewK V xs).length ≤ 4 := by
  unfold fewK
  rw [List.length_map, List.length_take]
  omega
theorem fewK_ok {V : Int} {xs : List Int} (hV : 1 ≤ V) : ∀ y ∈ fewK V xs, y ≠ 0 ∧ y ≤ V ∧ -V ≤ y := by
  intro y hy
  obtain ⟨x, _, rfl⟩ := List.mem_map.1 hy
  have h1 := Int.emod_nonneg (x / 2) (by omega : V ≠ 0)
  have h2 := Int.emod_lt_of_pos (x / 2) (by omega : 0 < V)
  split <;> omega
end Go.Proofs.Ytbkmgblijncjhaa

set_option linter.unusedVariables false
set_option linter.unusedSimpArgs false
namespace Go.Proofs.Ytbkmgblijncjhaa
open Go.RowKit Go.Maps

def u8k (xs : List Int) : List Value := xs.map (.int .u8 ·)
theorem u8k_at {xs : List Int} {i : Nat} {x : Int} (h : xs[i]? = some x) : (u8k xs)[i]? = some (.int .u8 x) := by
  unfold u8k
  rw [List.getElem?_map, h]
  rfl
theorem fewK_succ {V : Int} {xs : List Int} {k : Nat} {x : Int} (h : xs[k]? = some x) (hk : k < 4) : fewK V (xs.take (k + 1)) = fewK V (xs.take k) ++ [if x % 2 = 1 then -(1 + x / 2 % V) else 1 + x / 2 % V] := by
  unfold fewK
  rw [List.take_take, List.take_take, Nat.min_eq_right (by omega), Nat.min_eq_right (by omega), List.take_add_one, h, List.map_append]
  rfl
theorem fewK_take {V : Int} {xs : List Int} {k : Nat} (h : xs.length ≤ k ∨ 4 ≤ k) : fewK V (xs.take k) = fewK V xs := by
  unfold fewK
  rw [List.take_take]
  rcases h with h | h
  · rcases Nat.lt_or_ge k 4 with h2 | h2
    · rw [Nat.min_eq_right (by omega), List.take_of_length_le h, List.take_of_length_le (by omega)]
    · rw [Nat.min_eq_left h2]
  · rw [Nat.min_eq_left h]
theorem fewK_takelen {V : Int} {xs : List Int} {k : Nat} (h : k ≤ xs.length) (h4 : k ≤ 4) : (fewK V (xs.take k)).length = k := by
  unfold fewK
  rw [List.length_map, List.length_take, List.length_take]
  omega

set_option maxRecDepth 100000 in
set_option maxHeartbeats 2000000 in
theorem few_any (V : Int) (xs : List Int) (A : Option Addr) (c : Nat) (w : World) (hV : 1 ≤ V) (hV9 : V ≤ 2000) (hx : ∀ x ∈ xs, 0 ≤ x ∧ x ≤ 255) (hl : xs.length ≤ 140737488355328) (hp : Vals w w.heap.size A (u8k xs)) :
    Calls Try.prog 14 #[.slice A xs.length c, .int .i64 V] w (fun e w' => ∃ B d, e = .returned (.slice B (fewK V xs).length d) ∧ (fewK V xs).length ≤ d ∧ Vals w' w'.heap.size B (i64s (fewK V xs)) ∧ Below w.heap.size w w') := by
  have hnot := @not_run Try.prog
  have HP := Lib.hid hp
  have HX := Lib.hid hx
  clear hp hx
  go_enter Try.func14, Try.ntmps14
  go_wp2_with fail
  go_loopw [5, 6] (fun s i wr => ∃ (k : Nat) (B : Option Addr) (d : Nat), k ≤ 4 ∧ k ≤ xs.length ∧ s = .slice B k d ∧ i = .int .i64 k ∧ OwnF wr w.heap.size 3 1 (.slice B k d) k (i64s (fewK V (xs.take k))) ∧ Low w wr) (fun _ i _ => 4 - (intOf i).toNat)
  case atStart => exact ⟨0, none, 0, by omega, by omega, rfl, rfl, ⟨World.ownsRow_nil _ _ _ _⟩, Low.refl _⟩
  case round =>
    obtain ⟨k, B, d, hk4, hk, rfl, rfl, hown, hlow⟩ := hrel
    have HO := Lib.hid hown
    have HL := Lib.hid hlow
    obtain ⟨i0, hi0, hz0, hz1, hz2⟩ := info_parts intInfoK
    have hs := HL.out.size
    clear hown hlow
    by_cases hlt : k < xs.length
    · have hlt' : (k : Int) < (xs.length : Int) := by omega
      by_cases h4 : k < 4
      · have h4' : (k : Int) < 4 := by omega
        obtain ⟨x, hxk⟩ : ∃ x, xs[k]? = some x := ⟨_, List.getElem?_eq_getElem hlt⟩
        obtain ⟨x0, x1⟩ := HX.out x (List.mem_of_getElem? hxk)
        obtain ⟨b, o, rfl, _, q1⟩ := (HP.out.after HL.out.b) k _ (u8k_at hxk)
        have hV0 : (V == 0) = false := by simp; omega
        have ht1 : (x / 2).tmod V = x / 2 % V := Int.tmod_eq_emod_of_nonneg (by omega)
        have hm1 := Int.emod_nonneg (x / 2) (by omega : V ≠ 0)
        have hm2 := Int.emod_lt_of_pos (x / 2) (by omega : 0 < V)
        have ht2 : x.tmod 2 = x % 2 := Int.tmod_eq_emod_of_nonneg x0
        have HSU := Lib.hid (fewK_succ (V := V) hxk h4)
        have HLN : Hid ((fewK V (xs.take k)).length = k) := fewK_takelen hk hk4
        clear hxk
        by_cases hodd : x % 2 = 1
        · have hodd' : (x % 2 == 1) = true := by simpa using hodd
          rw [if_pos hodd] at HSU
          clear hodd
          go_wp2_with (first | (at_builtin; refine wpList_append_vals _ rfl (.tmp 35) (.tmp 37) _ rfl w.heap.size 3 i0 _ 1 8 Try.underlying25 hi0 hz0 hz1 hz2 rfl (by omega) (.slice B k d) k (i64s (fewK V (xs.take k))) rfl (HO.out.p.alloc _) _ _ 1 1 [.int .i64 (-(1 + x / 2 % V))] rfl rfl (vals_new wr [.int .i64 (-(1 + x / 2 % V))] 3) (i64s_one [-(1 + x / 2 % V)]) (by unfold maxLen; omega) (by omega) (by simp; omega) ?_; intro v5 w5 hown5 hg5; have HO5 := Lib.hid hown5; have HL5 := Lib.hid ((HL.out.step (stepA wr (.cells #[.int .i64 (-(1 + x / 2 % V))] 3))).grown hg5 (own_block HO.out.p)); clear hown5 hg5))
          go_roundw
          case rel =>
            obtain ⟨A6, c6, hv6, _⟩ := own_form HO5.out
            subst hv6
            refine ⟨k + 1, A6, c6, by omega, by omega, rfl, by go_num, ⟨?_⟩, HL5.out⟩
            rw [HSU.out, i64s_append]
            exact HO5.out
          case measure => simp [intOf]; omega
        · have hodd' : (x % 2 == 1) = false := by simpa using hodd
          rw [if_neg hodd] at HSU
          clear hodd
          go_wp2_with (first | (at_builtin; refine wpList_append_vals _ rfl (.tmp 35) (.tmp 37) _ rfl w.heap.size 3 i0 _ 1 8 Try.underlying25 hi0 hz0 hz1 hz2 rfl (by omega) (.slice B k d) k (i64s (fewK V (xs.take k))) rfl (HO.out.p.alloc _) _ _ 1 1 [.int .i64 (1 + x / 2 % V)] rfl rfl (vals_new wr [.int .i64 (1 + x / 2 % V)] 3) (i64s_one [1 + x / 2 % V]) (by unfold maxLen; omega) (by omega) (by simp; omega) ?_; intro v5 w5 hown5 hg5; have HO5 := Lib.hid hown5; have HL5 := Lib.hid ((HL.out.step (stepA wr (.cells #[.int .i64 (1 + x / 2 % V)] 3))).grown hg5 (own_block HO.out.p)); clear hown5 hg5))
          go_roundw
          case rel =>
            obtain ⟨A6, c6, hv6, _⟩ := own_form HO5.out
            subst hv6
            refine ⟨k + 1, A6, c6, by omega, by omega, rfl, by go_num, ⟨?_⟩, HL5.out⟩
            rw [HSU.out, i64s_append]
            exact HO5.out
          case measure => simp [intOf]; omega
      · have h4' : ¬ (k : Int) < 4 := by omega
        have HE : Hid (fewK V (xs.take k) = fewK V xs) := fewK_take (.inr (by omega))
        have HLN : Hid ((fewK V (xs.take k)).length = k) := fewK_takelen hk hk4
        go_wp2_with fail
        go_ret
        have e1 : (fewK V xs).length = k := by rw [← HE.out]; exact HLN.out
        refine ⟨B, d, by rw [e1]; rfl, by rw [e1]; exact own_cap HO.out.p, ?_, HL.out.b⟩
        rw [← HE.out]
        exact Vals.of_own HO.out.p
    · have hlt' : ¬ (k : Int) < (xs.length : Int) := by omega
      have HE : Hid (fewK V (xs.take k) = fewK V xs) := fewK_take (.inl (by omega))
      have HLN : Hid ((fewK V (xs.take k)).length = k) := fewK_takelen hk hk4
      go_wp2_with fail
      go_ret
      have e1 : (fewK V xs).length = k := by rw [← HE.out]; exact HLN.out
      refine ⟨B, d, by rw [e1]; rfl, by rw [e1]; exact own_cap HO.out.p, ?_, HL.out.b⟩
      rw [← HE.out]
      exact Vals.of_own HO.out.p
end Go.Proofs.Ytbkmgblijncjhaa

set_option linter.unusedVariables false
set_option linter.unusedSimpArgs false
namespace Go.Proofs.Ytbkmgblijncjhaa
open Go.RowKit Go.Maps

theorem madeK_succ {V : Int} {xs : List Int} {k : Nat} {x : Int} (h : xs[k]? = some x) (hk : k < 40) : madeK V (xs.take (k + 1)) = madeK V (xs.take k) ++ [clauseK V x] := by
  unfold madeK
  rw [List.take_take, List.take_take, Nat.min_eq_right (by omega), Nat.min_eq_right (by omega), List.take_add_one, h, List.map_append]
  rfl
theorem madeK_take {V : Int} {xs : List Int} {k : Nat} (h : xs.length ≤ k ∨ 40 ≤ k) : madeK V (xs.take k) = madeK V xs := by
  unfold madeK
  rw [List.take_take]
  rcases h with h | h
  · rcases Nat.lt_or_ge k 40 with h2 | h2
    · rw [Nat.min_eq_right (by omega), List.take_of_length_le h, List.take_of_length_le (by omega)]
    · rw [Nat.min_eq_left h2]
  · rw [Nat.min_eq_left h]
theorem madeK_takelen {V : Int} {xs : List Int} {k : Nat} (h : k ≤ xs.length) (h4 : k ≤ 40) : (madeK V (xs.take k)).length = k := by
  unfold madeK
  rw [List.length_map, List.length_take, List.length_take]
  omega
/-- The first literals of a clause. -/
def preK (V x : Int) (j : Nat) : List Int := (List.range j).map (litK V x)
theorem preK_succ (V x : Int) (j : Nat) : preK V x (j + 1) = preK V x j ++ [litK V x j] := by simp [preK, List.range_succ]
theorem preK_len (V x : Int) (j : Nat) : (preK V x j).length = j := by simp [preK]

/-- What stands behind so many rounds. -/
structure CSt (w wr : World) (V : Int) (cs : List (List Int)) (A : Option Addr) (c : Nat) (zs : Ks) : Prop where
  low : Low w wr
  big : w.heap.size + 2 ≤ wr.heap.size
  res : BlkF wr w.heap.size 24 #[.int .i64 0, .slice none 0 0]
  box : BlkF wr (w.heap.size + 1) 24 #[.int .i64 V, .slice A zs.length c]
  kb : KB wr w.heap.size A c zs
  eq : zs.map (·.2.2) = cs
theorem CSt.step {w wr wr' : World} {V : Int} {cs : List (List Int)} {A : Option Addr} {c : Nat} {zs : Ks} (h : CSt w wr V cs A c zs) (hb : Below wr.heap.size wr wr') : CSt w wr' V cs A c zs :=
  ⟨h.low.step hb, Nat.le_trans h.big hb.size, h.res.step hb, h.box.step hb, h.kb.step hb, h.eq⟩

theorem CSt.aside {w wr wr' : World} {V : Int} {cs : List (List Int)} {A : Option Addr} {c : Nat} {zs : Ks} (h : CSt w wr V cs A c zs) {base sz n : Nat} {v : Value} {xs : List Value} (ho : wr.ownsRow base 3 sz v n xs) (hb : w.heap.size ≤ base) (hz : ∀ z ∈ zs, z.1 < base) (hg : wr.grownBy wr' v.ownBlock) : CSt w wr' V cs A c zs :=
  ⟨h.low.grown hg (fun k hk => Nat.le_trans hb (own_block ho k hk)), Nat.le_trans h.big hg.size, ⟨h.res.p.by_ hg (own_ne ho h.res.p (by decide))⟩, ⟨h.box.p.by_ hg (own_ne ho h.box.p (by decide))⟩, h.kb.aside ho (fun z hz' k hk => by have h1 := hz z hz'; have h2 := own_block ho k hk; omega) hg, h.eq⟩

set_option maxRecDepth 100000 in
set_option maxHeartbeats 4000000 in
theorem made15_any (n : Int) (xs : List Int) (A : Option Addr) (c : Nat) (w : World) (h0 : 0 ≤ n) (h1 : n ≤ 255) (hx : U16 xs) (hl : xs.length ≤ 140737488355328) (hp : Vals w w.heap.size A (u16s xs)) :
    Calls Try.prog 13 #[.int .u8 n, .slice A xs.length c] w (RetC w (1 + n % 9) (madeK (1 + n % 9) xs)) := by
  have hnot := @not_run Try.prog
  have HP := Lib.hid hp
  have HX := Lib.hid hx
  have ht9 : n.tmod 9 = n % 9 := Int.tmod_eq_emod_of_nonneg h0
  clear hp hx
  obtain ⟨V, hV⟩ : ∃ V, V = 1 + n % 9 := ⟨_, rfl⟩
  have hV1 : 1 ≤ V := by omega
  have hV9 : V ≤ 9 := by omega
  have HV := Lib.hid hV
  rw [← hV]
  clear hV
  go_enter Try.func13, Try.ntmps13
  go_wp2_with fail
  rw [← HV.out]
  go_loopw [6] (fun i wr => ∃ (k : Nat) (B : Option Addr) (d : Nat) (zs : Ks), k ≤ 40 ∧ k ≤ xs.length ∧ i = .int .i64 k ∧ CSt w wr V (madeK V (xs.take k)) B d zs) (fun i _ => 40 - (intOf i).toNat)
  case atStart =>
    have hs : (w.alloc (.cells #[.int .i64 0, .slice none 0 0] 24)).heap.size = w.heap.size + 1 := by simp
    have hn := BlkF.new (w.alloc (.cells #[.int .i64 0, .slice none 0 0] 24)) 24 #[.int .i64 V, .slice none 0 0]
    rw [hs] at hn
    exact ⟨0, none, 0, [], by omega, by omega, rfl, ((Low.refl w).step (stepA w _)).step (stepA _ _), by simp, (BlkF.new w _ _).step (stepA _ _), hn, KB.nil _ _, rfl⟩
  case round =>
    obtain ⟨k, B, d, zs, hk4, hk, rfl, hst⟩ := hrel
    have HS := Lib.hid hst
    have HZ : Hid (zs.length = k) := by
      show _ = _
      have := congrArg List.length hst.eq
      rw [madeK_takelen hk hk4, List.length_map] at this
      exact this
    have hs := HS.out.low.size
    have c0 := HS.out.box.cell 0
    have c1 := HS.out.box.cell 1
    have f1 := HS.out.box.p.frozen 1
    have d0 := HS.out.res.cell 0
    have d1 := HS.out.res.cell 1
    have f00 := HS.out.res.p.frozen 0
    have f01 := HS.out.res.p.frozen 1
    clear hst
    by_cases hlt : k < xs.length
    · have hlt' : (k : Int) < (xs.length : Int) := by omega
      by_cases h4 : k < 40
      · have h4' : (k : Int) < 40 := by omega
        obtain ⟨x, hxk⟩ : ∃ x, xs[k]? = some x := ⟨_, List.getElem?_eq_getElem hlt⟩
        obtain ⟨x0, x1⟩ := HX.out x (List.mem_of_getElem? hxk)
        obtain ⟨b, o, rfl, _, q1⟩ := (HP.out.after HS.out.low.b) k _ (u16s_at hxk)
        have HSU := Lib.hid (madeK_succ (V := V) hxk h4)
        clear hxk
        go_wp2_with fail
        clear c0 c1 f1 d0 d1 f00 f01 q1 hlt' h4'
        obtain ⟨wo, rfl⟩ : ∃ wo : World, wo = wr := ⟨_, rfl⟩
        obtain ⟨M, hM⟩ : ∃ M : Nat, M = 1 + (x % 7 / 2).toNat := ⟨_, rfl⟩
        have hM4 : M ≤ 4 := by omega
        have hMi : (M : Int) = 1 + x % 7 / 2 := by omega
        have HM := Lib.hid hM
        have HZ2 : Hid (∀ z ∈ zs, z.1 < wo.heap.size) := Lib.hid fun z hz => (HS.out.kb.inner z hz).2.lt
        clear hM
        go_loopw [8, 9, 10] (fun s i v wr => ∃ (j : Nat) (K : Option Addr) (ck : Nat), j ≤ M ∧ s = .slice K j ck ∧ i = .int .i64 j ∧ OwnF wr wo.heap.size 3 1 (.slice K j ck) j (i64s (preK V x j)) ∧ CSt w wr V (madeK V (xs.take k)) B d zs ∧ Low wo wr) (fun _ i _ _ => M - (intOf i).toNat)
        case atStart => exact ⟨0, none, 0, Nat.zero_le _, rfl, rfl, ⟨World.ownsRow_nil _ _ _ _⟩, HS.out, Low.refl _⟩
        case round =>
          obtain ⟨j, K, ck, hj, rfl, rfl, hown, hcs, hlow⟩ := hrel
          have HO := Lib.hid hown
          have HC := Lib.hid hcs
          have HL := Lib.hid hlow
          obtain ⟨i0, hi0, hz0, hz1, hz2⟩ := info_parts intInfoK
          have hs2 := HL.out.size
          have hm7 : x.tmod 7 = x % 7 := Int.tmod_eq_emod_of_nonneg x0
          have hd2 : (x % 7).tdiv 2 = x % 7 / 2 := Int.tdiv_eq_ediv_of_nonneg (by omega)
          clear hown hcs hlow
          by_cases hjm : j < M
          · have hjm' : (j : Int) < 1 + x % 7 / 2 := by omega
            have HS0 := Lib.hid ((HC.out.box.step (stepD1 wr)).cell 0)
            go_wp2_with fail
            refine wp_region_noPanic ?_
            refine wp_region_seq (fun W => W.cell? ⟨w.heap.size + 1, 0, none⟩ = some (.int .i64 V)) [0, 1, 2, 3, 4, 5, 6, 7, 8] [0, 1, 2, 3, 4, 5, 6, 7, 8] [] (by kernel_rfl) (by kernel_rfl) rfl (by kernel_rfl) (by kernel_rfl) (fun _ _ _ _ _ h => h) ?_ (fun hSS => ?_)
            · exact HS0.out
            have HO2 := Lib.hid (HO.out.step (stepD1 wr))
            have HC2 := Lib.hid (HC.out.step (stepD1 wr))
            have HL2 := Lib.hid (HL.out.step (stepD1 wr))
            clear hSS HS0 HO HC HL hs2
            generalize wr.drew = w3 at HO2 HC2 HL2 ⊢
            have hs3 := HL2.out.size
            have hdn : 0 ≤ x / 2 ^ (3 * j) := Int.ediv_nonneg x0 (Int.le_of_lt (Int.pow_pos (by omega)))
            have hdl : x / 2 ^ (3 * j) ≤ x := Int.ediv_le_self _ x0
            have hw3 : IntKind.i64.wrap (3 * (j : Int)) = 3 * j := IntWalk.i64_in _ (by omega)
            have hsh : x >>> (3 * j) = x / 2 ^ (3 * j) := Int.shiftRight_eq_div_pow _ _
            have hsh2 : x >>> ((3 * (j : Int)).toNat) = x / 2 ^ (3 * j) := by
              rw [show (3 * (j : Int)).toNat = 3 * j by omega]
              exact Int.shiftRight_eq_div_pow _ _
            have htv : (x / 2 ^ (3 * j)).tmod V = x / 2 ^ (3 * j) % V := Int.tmod_eq_emod_of_nonneg hdn
            have hV0 : ¬ V = 0 := by omega
            have hto : (3 * (j : Int)).toNat = 3 * j := by omega
            have hm1 := Int.emod_nonneg (x / 2 ^ (3 * j)) (by omega : V ≠ 0)
            have hm2 := Int.emod_lt_of_pos (x / 2 ^ (3 * j)) (by omega : 0 < V)
            have hw1 : IntKind.i64.wrap (1 + x / 2 ^ (3 * j) % V) = 1 + x / 2 ^ (3 * j) % V := IntWalk.i64_in _ (by omega)
            (refine wpSeq_mov rfl rfl ?_; intro o ho; simp only [List.getElem?_toArray, List.getElem?_cons_zero, List.getElem?_cons_succ, Option.some.injEq] at ho; subst ho; refine ⟨?_, Or.inl ⟨by rfl, fun W hSW => ?_⟩, ?_⟩; rotate_left; (focus (go_simp; first | done | with_reducible rfl)); try simp only [Act.put, List.setIfInBounds_toArray, List.set_cons_zero, List.set_cons_succ])
            (refine wpSeq_mov rfl rfl ?_; intro o ho; simp only [List.getElem?_toArray, List.getElem?_cons_zero, List.getElem?_cons_succ, Option.some.injEq] at ho; subst ho; refine ⟨?_, Or.inl ⟨by rfl, fun W hSW => ?_⟩, ?_⟩; rotate_left; (focus (go_simp; first | done | with_reducible rfl)); try simp only [Act.put, List.setIfInBounds_toArray, List.set_cons_zero, List.set_cons_succ])
            (refine wpSeq_mov rfl rfl ?_; intro o ho; simp only [List.getElem?_toArray, List.getElem?_cons_zero, List.getElem?_cons_succ, Option.some.injEq] at ho; subst ho; refine ⟨?_, Or.inl ⟨by rfl, fun W hSW => ?_⟩, ?_⟩; rotate_left; (focus (go_simp; first | done | with_reducible rfl)); try simp only [Act.put, List.setIfInBounds_toArray, List.set_cons_zero, List.set_cons_succ])
            (refine wpSeq_mov rfl rfl ?_; intro o ho; simp only [List.getElem?_toArray, List.getElem?_cons_zero, List.getElem?_cons_succ, Option.some.injEq] at ho; subst ho; refine ⟨?_, Or.inl ⟨by rfl, fun W hSW => ?_⟩, ?_⟩; rotate_left; (focus (go_simp; first | done | with_reducible rfl)); try simp only [Act.put, List.setIfInBounds_toArray, List.set_cons_zero, List.set_cons_succ])
            (refine wpSeq_mov rfl rfl ?_; intro o ho; simp only [List.getElem?_toArray, List.getElem?_cons_zero, List.getElem?_cons_succ, Option.some.injEq] at ho; subst ho; refine ⟨?_, Or.inl ⟨by rfl, fun W hSW => ?_⟩, ?_⟩; rotate_left; (focus (go_simp; first | done | with_reducible rfl)); try simp only [Act.put, List.setIfInBounds_toArray, List.set_cons_zero, List.set_cons_succ])
            (refine wpSeq_mov rfl rfl ?_; intro o ho; simp only [List.getElem?_toArray, List.getElem?_cons_zero, List.getElem?_cons_succ, Option.some.injEq] at ho; subst ho; refine ⟨?_, Or.inl ⟨by rfl, fun W hSW => ?_⟩, ?_⟩; rotate_left; (focus (go_simp; first | done | with_reducible rfl)); try simp only [Act.put, List.setIfInBounds_toArray, List.set_cons_zero, List.set_cons_succ])
            (refine wpSeq_mov rfl rfl ?_; intro o ho; simp only [List.getElem?_toArray, List.getElem?_cons_zero, List.getElem?_cons_succ, Option.some.injEq] at ho; subst ho; refine ⟨?_, Or.inl ⟨by rfl, fun W hSW => ?_⟩, ?_⟩; rotate_left; (focus (go_simp; first | done | with_reducible rfl)); try simp only [Act.put, List.setIfInBounds_toArray, List.set_cons_zero, List.set_cons_succ])
            (refine wpSeq_mov rfl rfl ?_; intro o ho; simp only [List.getElem?_toArray, List.getElem?_cons_zero, List.getElem?_cons_succ, Option.some.injEq] at ho; subst ho; refine ⟨?_, Or.inl ⟨by rfl, fun W hSW => ?_⟩, ?_⟩; rotate_left; (focus (go_simp; first | done | with_reducible rfl)); try simp only [Act.put, List.setIfInBounds_toArray, List.set_cons_zero, List.set_cons_succ])
            (refine wpSeq_mov rfl rfl ?_; intro o ho; simp only [List.getElem?_toArray, List.getElem?_cons_zero, List.getElem?_cons_succ, Option.some.injEq] at ho; subst ho; refine ⟨?_, Or.inl ⟨by rfl, fun W hSW => ?_⟩, ?_⟩; rotate_left; (focus (go_simp; first | done | with_reducible rfl)); try simp only [Act.put, List.setIfInBounds_toArray, List.set_cons_zero, List.set_cons_succ])
            refine wpSeq_done ?_
            have hdn2 : 0 ≤ x / 2 ^ (j + 9) := Int.ediv_nonneg x0 (Int.le_of_lt (Int.pow_pos (by omega)))
            have hdl2 : x / 2 ^ (j + 9) ≤ x := Int.ediv_le_self _ x0
            have htv2 : (x / 2 ^ (j + 9)).tmod 2 = x / 2 ^ (j + 9) % 2 := Int.tmod_eq_emod_of_nonneg hdn2
            have hto2 : ((j : Int) + 9).toNat = j + 9 := by omega
            by_cases hodd : x / 2 ^ (j + 9) % 2 = 1
            · have hodd' : (x / 2 ^ (j + 9) % 2 == 1) = true := by simpa using hodd
              have HLK : Hid (litK V x j = -(1 + x / 2 ^ (3 * j) % V)) := if_pos hodd
              clear hodd
              go_wp2_with (first | (at_builtin; refine wpList_append_vals _ rfl (.tmp 55) (.tmp 57) _ rfl wo.heap.size 3 i0 _ 1 8 Try.underlying25 hi0 hz0 hz1 hz2 rfl (by omega) (.slice K j ck) j (i64s (preK V x j)) rfl (HO2.out.p.alloc _) _ _ 1 1 [.int .i64 (-(1 + x / 2 ^ (3 * j) % V))] rfl rfl (vals_new w3 [.int .i64 (-(1 + x / 2 ^ (3 * j) % V))] 3) (i64s_one [-(1 + x / 2 ^ (3 * j) % V)]) (by unfold maxLen; omega) (by omega) (by simp; omega) ?_; intro v5 w5 hown5 hg5; have HO5 := Lib.hid hown5; have HL5 := Lib.hid ((HL2.out.step (stepA w3 (.cells #[.int .i64 (-(1 + x / 2 ^ (3 * j) % V))] 3))).grown hg5 (own_block HO2.out.p)); have HC5 := Lib.hid ((HC2.out.step (stepA w3 (.cells #[.int .i64 (-(1 + x / 2 ^ (3 * j) % V))] 3))).aside (HO2.out.p.alloc _) hs HZ2.out hg5); clear hown5 hg5))
              go_roundw
              case rel =>
                obtain ⟨A6, c6, hv6, _⟩ := own_form HO5.out
                subst hv6
                refine ⟨j + 1, A6, c6, by omega, rfl, by go_num, ⟨?_⟩, HC5.out, HL5.out⟩
                rw [preK_succ, HLK.out, i64s_append]
                exact HO5.out
              case measure => simp [intOf]; omega
            · have hodd' : (x / 2 ^ (j + 9) % 2 == 1) = false := by simpa using hodd
              have HLK : Hid (litK V x j = 1 + x / 2 ^ (3 * j) % V) := if_neg hodd
              clear hodd
              go_wp2_with (first | (at_builtin; refine wpList_append_vals _ rfl (.tmp 55) (.tmp 57) _ rfl wo.heap.size 3 i0 _ 1 8 Try.underlying25 hi0 hz0 hz1 hz2 rfl (by omega) (.slice K j ck) j (i64s (preK V x j)) rfl (HO2.out.p.alloc _) _ _ 1 1 [.int .i64 (1 + x / 2 ^ (3 * j) % V)] rfl rfl (vals_new w3 [.int .i64 (1 + x / 2 ^ (3 * j) % V)] 3) (i64s_one [1 + x / 2 ^ (3 * j) % V]) (by unfold maxLen; omega) (by omega) (by simp; omega) ?_; intro v5 w5 hown5 hg5; have HO5 := Lib.hid hown5; have HL5 := Lib.hid ((HL2.out.step (stepA w3 (.cells #[.int .i64 (1 + x / 2 ^ (3 * j) % V)] 3))).grown hg5 (own_block HO2.out.p)); have HC5 := Lib.hid ((HC2.out.step (stepA w3 (.cells #[.int .i64 (1 + x / 2 ^ (3 * j) % V)] 3))).aside (HO2.out.p.alloc _) hs HZ2.out hg5); clear hown5 hg5))
              go_roundw
              case rel =>
                obtain ⟨A6, c6, hv6, _⟩ := own_form HO5.out
                subst hv6
                refine ⟨j + 1, A6, c6, by omega, rfl, by go_num, ⟨?_⟩, HC5.out, HL5.out⟩
                rw [preK_succ, HLK.out, i64s_append]
                exact HO5.out
              case measure => simp [intOf]; omega
          · have hjm' : ¬ (j : Int) < 1 + x % 7 / 2 := by omega
            obtain rfl : j = M := by omega
            clear hMi
            have HLN : Hid ((preK V x j).length = j) := preK_len V x j
            have HPC : Hid (preK V x j = clauseK V x) := by
              show _ = _
              unfold preK clauseK
              rw [HM.out]
            obtain ⟨q0, hq0, hy0, hy1, hy2⟩ := info_parts rowInfoK
            have hK := HO.out.p
            have hpos : 0 < (preK V x j).length := by rw [HLN.out]; omega
            obtain ⟨g, rfl, hgb, hgc, hgi⟩ := HasI.of_own (l := preK V x j) (A := K) (c := ck) (base := wo.heap.size) (w := wr) (by rw [HLN.out]; exact hK) hpos
            have HGI := Lib.hid hgi
            have HGC := Lib.hid hgc
            clear hK hgi hgc hpos
            have c0 := HC.out.box.cell 0
            have c1 := HC.out.box.cell 1
            have f1 := HC.out.box.p.frozen 1
            have hzk : zs.length ≤ 40 := by rw [HZ.out]; omega
            have HC1 := Lib.hid (HC.out.step (stepA wr (.cells #[.slice (some ⟨g, 0, none⟩) j ck] 25)))
            go_wp2_with (first | (at_builtin; refine wpList_append_vals _ rfl (.tmp 60) (.tmp 62) _ rfl w.heap.size 25 q0 _ 1 24 Try.underlying22 hq0 hy0 hy1 hy2 rfl (by omega) (.slice B zs.length d) zs.length (zs.map slotK) rfl HC1.out.kb.own _ _ 1 1 [.slice (some ⟨g, 0, none⟩) j ck] rfl rfl (vals_new wr [.slice (some ⟨g, 0, none⟩) j ck] 25) (by intro u hu; obtain rfl := List.mem_singleton.1 hu; rfl) (by unfold maxLen; omega) (by omega) (by simp; omega) ?_; intro v5 w5 hown5 hg5; obtain ⟨A6, c6, rfl, hcap6⟩ := own_form hown5; have HG5 := Lib.hid hg5; have HO5 := Lib.hid hown5; have HB5 := Lib.hid (HC1.out.box.p.by_ hg5 (own_ne HC1.out.kb.own HC1.out.box.p (by decide))); clear hown5 hg5 c0 c1 f1; have c1 := HB5.out.cell 1; have f1 := HB5.out.frozen 1))
            have e1 : (zs ++ [(g, ck, clauseK V x)]).length = zs.length + 1 := by simp
            have e3 : slotK (g, ck, clauseK V x) = .slice (some ⟨g, 0, none⟩) j ck := by
              rw [← HPC.out]
              unfold slotK
              simp only [HLN.out]
            have e2 : (zs ++ [(g, ck, clauseK V x)]).map slotK = zs.map slotK ++ [.slice (some ⟨g, 0, none⟩) j ck] := by simp [e3]
            have hkb : KB w5 w.heap.size A6 c6 (zs ++ [(g, ck, clauseK V x)]) := HC1.out.kb.grow HG5.out (by rw [e1, e2]; exact HO5.out) (fun y hy => by
              obtain rfl := List.mem_singleton.1 hy
              refine ⟨?_, ?_⟩
              · show (clauseK V x).length ≤ ck
                rw [← HPC.out]
                exact HGC.out
              · show HasI _ g (clauseK V x)
                rw [← HPC.out]
                exact HGI.out.below (stepA wr _))
            have hown1 := HC1.out.kb.own
            go_roundw
            case rel =>
              refine ⟨k + 1, A6, c6, zs ++ [(g, ck, clauseK V x)], by omega, by omega, by go_num, ⟨⟨?_⟩, ?_, ⟨?_⟩, ⟨?_⟩, ?_, ?_⟩⟩
              · exact (HC1.out.low.b.grown HG5.out HC1.out.low.size (own_block hown1)).setCell (p := ⟨w.heap.size + 1, 1, none⟩) (by simp) _
              · have := HG5.out.size
                have := HC1.out.big
                simp only [World.setCell, Array.size_modify]
                omega
              · exact (HC1.out.res.p.by_ HG5.out (own_ne hown1 HC1.out.res.p (by decide))).far (p := ⟨w.heap.size + 1, 1, none⟩) (by simp) _
              · rw [e1]
                exact HB5.out.set_ 1 _
              · exact hkb.set HB5.out (by decide) (by decide) 1 _
              · rw [List.map_append, HC.out.eq, HSU.out]
                rfl
            case measure => simp [intOf]; omega
      · have h4' : ¬ (k : Int) < 40 := by omega
        have HE : Hid (madeK V (xs.take k) = madeK V xs) := madeK_take (.inr (by omega))
        go_wp2_with fail
        refine bodyPost_ret (v := .agg #[.int .i64 V, .slice B zs.length d]) (by simp [results, Try.results13, go_sem, d0, d1]) rfl ?_
        rw [← HE.out, ← HS.out.eq]
        have hb1 := HS.out.res.p
        have hkb := (HS.out.kb.set hb1 (by decide) (by decide) 0 (.int .i64 V)).set (hb1.set_ 0 (.int .i64 V)) (by decide) (by decide) 1 (.slice B zs.length d)
        exact ⟨B, d, by rw [List.length_map], hkb.cls, by rw [List.length_map]; exact hkb.cap, ((HS.out.low.b.setCell (p := ⟨w.heap.size, 0, none⟩) (Nat.le_refl _) _).setCell (p := ⟨w.heap.size, 1, none⟩) (Nat.le_refl _) _)⟩
    · have hlt' : ¬ (k : Int) < (xs.length : Int) := by omega
      have HE : Hid (madeK V (xs.take k) = madeK V xs) := madeK_take (.inl (by omega))
      go_wp2_with fail
      refine bodyPost_ret (v := .agg #[.int .i64 V, .slice B zs.length d]) (by simp [results, Try.results13, go_sem, d0, d1]) rfl ?_
      rw [← HE.out, ← HS.out.eq]
      have hb1 := HS.out.res.p
      have hkb := (HS.out.kb.set hb1 (by decide) (by decide) 0 (.int .i64 V)).set (hb1.set_ 0 (.int .i64 V)) (by decide) (by decide) 1 (.slice B zs.length d)
      exact ⟨B, d, by rw [List.length_map], hkb.cls, by rw [List.length_map]; exact hkb.cap, ((HS.out.low.b.setCell (p := ⟨w.heap.size, 0, none⟩) (Nat.le_refl _) _).setCell (p := ⟨w.heap.size, 1, none⟩) (Nat.le_refl _) _)⟩
end Go.Proofs.Ytbkmgblijncjhaa
