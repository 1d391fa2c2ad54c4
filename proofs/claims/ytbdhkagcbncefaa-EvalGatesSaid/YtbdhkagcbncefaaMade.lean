/- A graph by numbers: the walk of Made. -/
import Derived.Test.YtbdhkagcbncefaaPMade
import Derived.Test.YtbdhkagcbncefaaAwake1
namespace Go.Proofs.Ytbdhkagcbncefaa
open Go.RowKit Go.Maps

/-- The numbers of a list, as cells. -/
def u16s (xs : List Int) : List Value := xs.map (.int .u16 ·)
/-- Numbers of 16 bits. -/
def U16 (xs : List Int) : Prop := ∀ x ∈ xs, 0 ≤ x ∧ x ≤ 65535

theorem u16s_at {xs : List Int} {i : Nat} {x : Int} (h : xs[i]? = some x) : (u16s xs)[i]? = some (.int .u16 x) := by
  unfold u16s
  rw [List.getElem?_map, h]
  rfl

theorem xor_nought (a : Int) (h0 : 0 ≤ a) (h1 : a ≤ 9223372036854775807) : bits .xor .i64 a 0 = a := by
  have := xor_i64 a.toNat 0 (by omega) (by omega)
  simp at this
  rwa [Int.max_eq_left h0] at this

theorem xor_turn (a t : Int) (h0 : 0 ≤ a) (h1 : a ≤ 9223372036854775807) (ht : t = 0 ∨ t = 1) : bits .xor .i64 a t = turnBy a t := by
  rcases ht with rfl | rfl
  · rw [xor_nought a h0 h1]
    rfl
  · rw [xor_flip a h0 h1]
    rfl

/-- What stands behind so many rounds. -/
structure MSt (w wr : World) (n : Int) (xs : List Int) (k : Nat) (A : Option Addr) (c : Nat) : Prop where
  below : Below w.heap.size w wr
  big : w.heap.size + 2 ≤ wr.heap.size
  cap : (madeAt n xs k).1.as.length ≤ c
  res : Blk wr w.heap.size 24 #[.int .i64 0, .slice none 0 0]
  g : Blk wr (w.heap.size + 1) 24 #[.int .i64 (madeAt n xs k).1.n, .slice A (madeAt n xs k).1.as.length c]
  prs : PrsQ wr (w.heap.size + 2 ≤ ·) A (madeAt n xs k).1.as

theorem MSt.step {w wr wr' : World} {n : Int} {xs : List Int} {k : Nat} {A : Option Addr} {c : Nat} (h : MSt w wr n xs k A c) (hb : Below wr.heap.size wr wr') : MSt w wr' n xs k A c :=
  ⟨below2 h.below h.below.size hb, Nat.le_trans h.big hb.size, h.cap, h.res.below hb h.res.lt, h.g.below hb h.g.lt, h.prs.below hb⟩

/-- A round that makes nothing. -/
theorem MSt.again {w wr : World} {n : Int} {xs : List Int} {k : Nat} {A : Option Addr} {c : Nat} (h : MSt w wr n xs k A c) (e : madeAt n xs (k + 1) = madeAt n xs k) : MSt w wr n xs (k + 1) A c :=
  ⟨h.below, h.big, by rw [e]; exact h.cap, h.res, by rw [e]; exact h.g, by rw [e]; exact h.prs⟩

/-- A round that makes something. -/
theorem MSt.put {w wr : World} {n : Int} {xs : List Int} {k : Nat} {A A' : Option Addr} {c c' : Nat} {g : Gr} (h : MSt w wr n xs k A c) (e : (madeAt n xs (k + 1)).1 = g) (hc : g.as.length ≤ c') (hp : PrsQ wr (w.heap.size + 2 ≤ ·) A' g.as) :
    MSt w ((wr.setCell ⟨w.heap.size + 1, 0, none⟩ (.int .i64 g.n)).setCell ⟨w.heap.size + 1, 1, none⟩ (.slice A' g.as.length c')) n xs (k + 1) A' c' := by
  refine ⟨(h.below.setCell (p := ⟨w.heap.size + 1, 0, none⟩) (by simp) _).setCell (p := ⟨w.heap.size + 1, 1, none⟩) (by simp) _, by simpa [World.setCell] using h.big, by rw [e]; exact hc, ?_, ?_, ?_⟩
  · exact (h.res.far (p := ⟨w.heap.size + 1, 0, none⟩) (by simp) _).far (p := ⟨w.heap.size + 1, 1, none⟩) (by simp) _
  · have := (h.g.set_ 0 (.int .i64 g.n)).set_ 1 (.slice A' g.as.length c')
    rw [e]
    exact this
  · rw [e]
    exact (hp.setCell (fun b hb => by omega) _).setCell (fun b hb => by omega) _

theorem setCell2_size (w : World) (p q : Addr) (x y : Value) : ((w.setCell p x).setCell q y).heap.size = w.heap.size := by simp [World.setCell]

/-- The call hands back the graph and the literal. -/
def RetM (w : World) (r : Gr × Int) (e : Ending) (w' : World) : Prop :=
  ∃ A c, e = .returned (.tuple #[.agg #[.int .i64 r.1.n, .slice A r.1.as.length c], .int .i64 r.2]) ∧ r.1.as.length ≤ c ∧ Prs w' w'.heap.size A r.1.as ∧ Below w.heap.size w w'

theorem MSt.ret {w wr : World} {n : Int} {xs : List Int} {k : Nat} {A : Option Addr} {c : Nat} (h : MSt w wr n xs k A c) (x y : Value) :
    RetM w (madeAt n xs k) (.returned (.tuple #[.agg #[.int .i64 (madeAt n xs k).1.n, .slice A (madeAt n xs k).1.as.length c], .int .i64 (madeAt n xs k).2])) ((wr.setCell ⟨w.heap.size, 0, none⟩ x).setCell ⟨w.heap.size, 1, none⟩ y) :=
  ⟨A, c, rfl, h.cap, ((h.prs.setCell (fun b hb => by omega) x).setCell (fun b hb => by omega) y).prs, (h.below.setCell (p := ⟨w.heap.size, 0, none⟩) (Nat.le_refl _) x).setCell (p := ⟨w.heap.size, 1, none⟩) (Nat.le_refl _) y⟩

set_option maxRecDepth 100000 in
set_option maxHeartbeats 2000000 in
theorem made_any (n : Int) (xs : List Int) (A : Option Addr) (c : Nat) (w : World) (h0 : 0 ≤ n) (h1 : n ≤ 1900) (hx : U16 xs) (hl : xs.length ≤ 8796093022208 * 8) (hp : Vals w w.heap.size A (u16s xs)) :
    Calls Try.prog 35 #[.int .i64 n, .slice A xs.length c] w (RetM w (madeG n xs)) := by
  go_enter Try.func35, Try.ntmps35
  go_wp2_with fail
  go_loopw [7, 8] (fun s i wr => ∃ (k : Nat) (B : Option Addr) (d : Nat), k ≤ 40 ∧ k ≤ xs.length ∧ s = .int .i64 (madeAt n xs k).2 ∧ i = .int .i64 k ∧ MSt w wr n xs k B d) (fun _ i _ => 40 - (intOf i).toNat)
  case atStart =>
    have hs : (w.alloc (.cells #[.int .i64 0, .slice none 0 0] 24)).heap.size = w.heap.size + 1 := by simp
    have hn := Blk.new (w.alloc (.cells #[.int .i64 0, .slice none 0 0] 24)) 24 #[.int .i64 n, .slice none 0 0]
    rw [hs] at hn
    exact ⟨0, none, 0, by omega, by omega, rfl, rfl, ((Below.refl _ _).alloc (Nat.le_refl _) _).alloc (by simp) _, by simp, Nat.le_refl _, (Blk.new w _ _).alloc _, hn, PrsQ.nil⟩
  case round =>
    obtain ⟨k, B, d, hk, hkl, rfl, rfl, hm⟩ := hrel
    have hi := madeAt_inv h0 h1 xs k
    have hn0 : 0 ≤ (madeAt n xs k).1.n := by rw [hi.n]; exact h0
    have hn1 : (madeAt n xs k).1.n ≤ 1900 := by rw [hi.n]; exact h1
    have hll : (madeAt n xs k).1.as.length ≤ 40 := Nat.le_trans hi.len hk
    have HM := Lib.hid hm
    have HP := Lib.hid hp
    have HI := Lib.hid hi
    have HX := Lib.hid hx
    have g0 : wr.cell? ⟨w.heap.size + 1, 0, none⟩ = some (.int .i64 (madeAt n xs k).1.n) := HM.out.g.cell 0
    have g1 : wr.cell? ⟨w.heap.size + 1, 1, none⟩ = some (.slice B (madeAt n xs k).1.as.length d) := HM.out.g.cell 1
    have d0 : wr.cell? ⟨w.heap.size, 0, none⟩ = some (.int .i64 0) := HM.out.res.cell 0
    have d1 : wr.cell? ⟨w.heap.size, 1, none⟩ = some (.slice none 0 0) := HM.out.res.cell 1
    have f0 := HM.out.res.frozen 0
    have f1 := HM.out.res.frozen 1
    clear hm hp hi hx
    by_cases hlt : k < xs.length
    · by_cases h40 : k < 40
      · have h40' : (k : Int) < 40 := by omega
        obtain ⟨x, hxk⟩ : ∃ x, xs[k]? = some x := ⟨_, List.getElem?_eq_getElem hlt⟩
        obtain ⟨x0, x1⟩ := HX.out x (List.mem_of_getElem? hxk)
        have HXK := Lib.hid hxk
        clear hxk
        go_wp2_with fail
        refine (rvars_any _ _ _ _ _ hn0 (by omega) (by omega)).mono ?_
        rintro e w2 ⟨rfl, hb2⟩
        have HM2 := Lib.hid (HM.out.step hb2)
        clear g0 g1 d0 d1 f0 f1 hb2
        have g0 : w2.cell? ⟨w.heap.size + 1, 0, none⟩ = some (.int .i64 (madeAt n xs k).1.n) := HM2.out.g.cell 0
        have g1 : w2.cell? ⟨w.heap.size + 1, 1, none⟩ = some (.slice B (madeAt n xs k).1.as.length d) := HM2.out.g.cell 1
        obtain ⟨b', o', rfl, hlb, l0⟩ := (HP.out.below HM2.out.below) k _ (u16s_at HXK.out)
        have hlt' : (k : Int) < (xs.length : Int) := by omega
        have hmz : ((2 * ((madeAt n xs k).1.n + 1 + ((madeAt n xs k).1.as.length : Int))) == 0) = false := by simp; omega
        have hM0 : 0 < 2 * ((madeAt n xs k).1.n + 1 + ((madeAt n xs k).1.as.length : Int)) := by omega
        have hM1 : 2 * ((madeAt n xs k).1.n + 1 + ((madeAt n xs k).1.as.length : Int)) ≤ 4000 := by omega
        have hxm : (x / (2 * ((madeAt n xs k).1.n + 1 + ((madeAt n xs k).1.as.length : Int)))).tmod (2 * ((madeAt n xs k).1.n + 1 + ((madeAt n xs k).1.as.length : Int))) = x / (2 * ((madeAt n xs k).1.n + 1 + ((madeAt n xs k).1.as.length : Int))) % (2 * ((madeAt n xs k).1.n + 1 + ((madeAt n xs k).1.as.length : Int))) :=
          Int.tmod_eq_emod_of_nonneg (Int.ediv_nonneg x0 (by omega))
        have hb1 := Int.emod_lt_of_pos x hM0
        have hb2 := Int.emod_lt_of_pos (x / (2 * ((madeAt n xs k).1.n + 1 + ((madeAt n xs k).1.as.length : Int)))) hM0
        have HR : Hid (∀ w0 : World, Below w2.heap.size w2 w0 → w2.heap.size ≤ w0.heap.size → Calls Try.prog 69 #[.agg #[.int .i64 (madeAt n xs k).1.n, .slice B (madeAt n xs k).1.as.length d], .int .i64 (x % (2 * ((madeAt n xs k).1.n + 1 + ((madeAt n xs k).1.as.length : Int)))), .int .i64 (x / (2 * ((madeAt n xs k).1.n + 1 + ((madeAt n xs k).1.as.length : Int))) % (2 * ((madeAt n xs k).1.n + 1 + ((madeAt n xs k).1.as.length : Int))))] w0 (RetG w0 (w.heap.size + 2 ≤ ·) (andG (madeAt n xs k).1 (x % (2 * ((madeAt n xs k).1.n + 1 + ((madeAt n xs k).1.as.length : Int)))) (x / (2 * ((madeAt n xs k).1.n + 1 + ((madeAt n xs k).1.as.length : Int))) % (2 * ((madeAt n xs k).1.n + 1 + ((madeAt n xs k).1.as.length : Int))))))) :=
          fun w0 h0 _ => rand_any (madeAt n xs k).1 _ _ B d w0 _ HI.out.ok (by omega) (by omega) HM2.out.cap (HM2.out.step h0).prs
        obtain ⟨r, hr⟩ : ∃ r, r = andG (madeAt n xs k).1 (x % (2 * ((madeAt n xs k).1.n + 1 + ((madeAt n xs k).1.as.length : Int)))) (x / (2 * ((madeAt n xs k).1.n + 1 + ((madeAt n xs k).1.as.length : Int))) % (2 * ((madeAt n xs k).1.n + 1 + ((madeAt n xs k).1.as.length : Int)))) := ⟨_, rfl⟩
        rw [← hr] at HR
        have hrl : 0 ≤ r.2.1 ∧ r.2.1 ≤ 4001 := by rw [hr]; exact andG_lit _ _ _
        have HRE := Lib.hid hr
        clear hr hb1 hb2
        go_wp2_with fail
        go_quiet (fail)
        clear hxm hmz
        go_wp2_with fail
        refine (HR.out _ (below_drewN (Below.refl _ _) _) (Nat.le_refl _)).mono ?_
        rintro e w3 ⟨B3, d3, rfl, hc3, hp3, hb3⟩
        have hb23 : Below w2.heap.size w2 w3 := below2 (below_drewN (Below.refl w2.heap.size w2) _) (Nat.le_refl _) hb3
        have hq3 : PrsQ w3 (w.heap.size + 2 ≤ ·) B3 r.1.as := hp3.imp fun b h _ => by
          rcases h with ⟨h, _⟩ | h
          · exact h
          · exact Nat.le_trans HM2.out.big h
        have HM3 := Lib.hid ((HM2.out.step hb23).step ((Below.refl w3.heap.size w3).alloc (Nat.le_refl _) (.cells #[.int .i64 r.1.n, .slice B3 r.1.as.length d3] 24)))
        have HQ3 := Lib.hid (hq3.alloc (.cells #[.int .i64 r.1.n, .slice B3 r.1.as.length d3] 24))
        have HC3 := Lib.hid hc3
        clear hb3 hp3 hb23 hq3 hc3 g0 g1 l0 HR
        obtain ⟨b4, o4, e4, _, l0⟩ := (HP.out.below HM3.out.below) k _ (u16s_at HXK.out)
        injection e4 with e4
        injection e4 with e4 e5
        subst e4 e5
        by_cases hz : r.2.2 = 0
        · have hz' : (r.2.2 == 0) = true := by simpa using hz
          have HS : Hid (madeAt n xs (k + 1) = (r.1, turnBy r.2.1 (x / 7 % 2))) := by
            show madeAt n xs (k + 1) = _
            rw [madeAt_succ HXK.out]
            unfold madeStep
            simp only
            unfold Gr.vars
            rw [← HRE.out, if_pos hz]
          have HX7 : Hid (bits .xor .i64 r.2.1 (x / 7 % 2) = turnBy r.2.1 (x / 7 % 2)) := xor_turn _ _ hrl.1 (by omega) (by omega)
          have y0 : (w3.alloc (.cells #[.int .i64 r.1.n, .slice B3 r.1.as.length d3] 24)).cell? ⟨w3.heap.size, 0, none⟩ = some (.int .i64 r.1.n) := (Blk.new w3 _ _).cell 0
          have y1 : (w3.alloc (.cells #[.int .i64 r.1.n, .slice B3 r.1.as.length d3] 24)).cell? ⟨w3.heap.size, 1, none⟩ = some (.slice B3 r.1.as.length d3) := (Blk.new w3 _ _).cell 1
          have g0 : (w3.alloc (.cells #[.int .i64 r.1.n, .slice B3 r.1.as.length d3] 24)).cell? ⟨w.heap.size + 1, 0, none⟩ = some (.int .i64 (madeAt n xs k).1.n) := HM3.out.g.cell 0
          have g1 : (w3.alloc (.cells #[.int .i64 r.1.n, .slice B3 r.1.as.length d3] 24)).cell? ⟨w.heap.size + 1, 1, none⟩ = some (.slice B (madeAt n xs k).1.as.length d) := HM3.out.g.cell 1
          have f0 := HM3.out.g.frozen 0
          have f1 := HM3.out.g.frozen 1
          clear hz
          go_wp2_with fail
          go_region
          all_goals go_wp2_with fail
          all_goals go_roundw
          case rel => exact ⟨k + 1, B3, d3, by omega, by omega, by rw [HX7.out, HS.out], by go_num, (HM3.out.put (by rw [HS.out]) HC3.out HQ3.out).step (Below.refl _ _).drew⟩
          case measure => simp [intOf]; omega
        · have hz' : (r.2.2 == 0) = false := by simpa using hz
          have HS : Hid (madeAt n xs (k + 1) = madeAt n xs k) := by
            show madeAt n xs (k + 1) = _
            rw [madeAt_succ HXK.out]
            unfold madeStep
            simp only
            unfold Gr.vars
            rw [← HRE.out, if_neg hz]
          clear hz
          go_wp2_with fail
          go_roundw
          case rel => exact ⟨k + 1, B, d, by omega, by omega, by rw [HS.out], by go_num, HM3.out.again HS.out⟩
          case measure => simp [intOf]; omega
      · have h40' : ¬ ((k : Int) < 40) := by omega
        clear h40
        have HE : Hid (madeG n xs = madeAt n xs k) := by
          obtain rfl : k = 40 := by omega
          rfl
        go_wp2_with fail
        refine bodyPost_ret (v := .tuple #[.agg #[.int .i64 (madeAt n xs k).1.n, .slice B (madeAt n xs k).1.as.length d], .int .i64 (madeAt n xs k).2]) (by simp [results, Try.results35, go_sem, d0, d1]) rfl ?_
        rw [HE.out]
        exact HM.out.ret _ _
    · have hlt' : ¬ ((k : Int) < (xs.length : Int)) := by omega
      have HE : Hid (madeG n xs = madeAt n xs k) := by
        obtain rfl : k = xs.length := by omega
        show madeG n xs = _
        unfold madeG madeAt
        rw [List.take_of_length_le (Nat.le_refl _), List.take_of_length_le hk]
      go_wp2_with fail
      refine bodyPost_ret (v := .tuple #[.agg #[.int .i64 (madeAt n xs k).1.n, .slice B (madeAt n xs k).1.as.length d], .int .i64 (madeAt n xs k).2]) (by simp [results, Try.results35, go_sem, d0, d1]) rfl ?_
      rw [HE.out]
      exact HM.out.ret _ _

end Go.Proofs.Ytbdhkagcbncefaa
