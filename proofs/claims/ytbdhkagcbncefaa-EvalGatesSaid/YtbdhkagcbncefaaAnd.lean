/- The package graph: Right, And, Or, Ite. -/
import Derived.Laws.BitsAllLaws
import Derived.Laws.BitsLemmas
import Derived.BigRegion
import Derived.Test.YtbdhkagcbncefaaGraph
namespace Go.Proofs.Ytbdhkagcbncefaa
open Go.RowKit Go.Maps

theorem xor_mod2 (a b : Nat) : (a ^^^ b) % 2 = (a + b) % 2 := by
  have h : (a ^^^ b) % 2 ^ 1 = (a % 2 ^ 1) ^^^ (b % 2 ^ 1) := Nat.xor_mod_two_pow
  simp only [Nat.pow_one] at h
  rw [h]
  rcases Nat.mod_two_eq_zero_or_one a with ha | ha <;> rcases Nat.mod_two_eq_zero_or_one b with hb | hb <;> rw [ha, hb] <;> simp <;> omega
theorem xor_zero_iff (a b : Nat) : a ^^^ b = 0 ↔ a = b := by
  constructor
  · intro h
    have : a ^^^ b ^^^ b = 0 ^^^ b := by rw [h]
    rwa [Nat.xor_assoc, Nat.xor_self, Nat.xor_zero, Nat.zero_xor] at this
  · rintro rfl
    exact Nat.xor_self a
theorem xor_one_nat (a b : Nat) : a ^^^ b = 1 ↔ (a / 2 = b / 2 ∧ a ≠ b) := by
  have h1 : (a ^^^ b) / 2 = a / 2 ^^^ b / 2 := Nat.xor_div_two
  have h2 := xor_mod2 a b
  have h3 := xor_zero_iff (a / 2) (b / 2)
  constructor
  · intro h
    rw [h] at h1 h2
    have := h3.1 (by omega)
    omega
  · intro ⟨h, hne⟩
    have := h3.2 h
    omega
theorem flip_nat (a : Nat) : a ^^^ 1 = if a % 2 = 0 then a + 1 else a - 1 := by
  have h1 : (a ^^^ 1) / 2 = a / 2 ^^^ 1 / 2 := Nat.xor_div_two
  have h2 := xor_mod2 a 1
  rw [show 1 / 2 = 0 from rfl, Nat.xor_zero] at h1
  split <;> omega
theorem ofInt64_nat (a : Nat) (ha : a < 9223372036854775808) : (BitVec.ofInt 64 (a : Int)).toNat = a := by
  rw [BitVec.ofInt_natCast, BitVec.toNat_ofNat]; exact Nat.mod_eq_of_lt (by omega)
theorem xor_i64 (a b : Nat) (ha : a < 9223372036854775808) (hb : b < 9223372036854775808) : bits .xor .i64 (a : Int) (b : Int) = ((a ^^^ b : Nat) : Int) := by
  have hx : a ^^^ b < 2 ^ 63 := Nat.xor_lt_two_pow (by omega) (by omega)
  show IntKind.i64.wrap ((BitVec.ofInt 64 (a : Int) ^^^ BitVec.ofInt 64 (b : Int)).toNat : Int) = _
  rw [BitVec.toNat_xor, ofInt64_nat a ha, ofInt64_nat b hb, IntKind.wrap_i64]
  omega
theorem xor_flip (a : Int) (h0 : 0 ≤ a) (h1 : a ≤ 9223372036854775807) : bits .xor .i64 a 1 = flip a := by
  obtain ⟨n, rfl⟩ := Int.eq_ofNat_of_zero_le h0
  have := xor_i64 n 1 (by omega) (by omega)
  rw [show ((1 : Nat) : Int) = 1 from rfl] at this
  rw [this, flip_nat]
  unfold flip
  split <;> split <;> omega
theorem xor_is_one (a b : Int) (h0 : 0 ≤ a) (h1 : a ≤ 9223372036854775807) (h2 : 0 ≤ b) (h3 : b ≤ 9223372036854775807) : (bits .xor .i64 a b == 1) = decide (a / 2 = b / 2 ∧ a ≠ b) := by
  obtain ⟨m, rfl⟩ := Int.eq_ofNat_of_zero_le h0
  obtain ⟨n, rfl⟩ := Int.eq_ofNat_of_zero_le h2
  rw [xor_i64 m n (by omega) (by omega), Bool.eq_iff_iff, decide_eq_true_eq, beq_iff_eq]
  have := xor_one_nat m n
  omega
theorem flip_range {a : Int} (h0 : 0 ≤ a) : 0 ≤ flip a ∧ flip a ≤ a + 1 ∧ flip a / 2 = a / 2 := by
  unfold flip
  split <;> omega
theorem flip_flip {a : Int} : flip (flip a) = a := by
  unfold flip
  split <;> split <;> omega

theorem Right_any (g : Gr) (A : Option Addr) (c : Nat) (w : World) (hg : GOk g) (hp : Prs w w.heap.size A g.as) :
    Calls Try.prog 42 #[.agg #[.int .i64 g.n, .slice A g.as.length c]] w (Ret w (.bool (rightB g))) := by
  have hC : Calls Try.prog 72 #[.agg #[.int .i64 g.n, .slice A g.as.length c], .pointer (some ⟨w.heap.size + 1, 0, none⟩)]
      ((w.alloc (.cells #[.int .i64 g.n, .slice A g.as.length c] 24)).alloc (.cells #[.int .u32 0, .int .i32 0, .int .u32 0, .slice A g.as.length c, .map none] 96)) fun e w' => RightIs ((w.alloc (.cells #[.int .i64 g.n, .slice A g.as.length c] 24)).alloc (.cells #[.int .u32 0, .int .i32 0, .int .u32 0, .slice A g.as.length c, .map none] 96)) w' (w.heap.size + 1) A c g e := by
    obtain ⟨h1, h2, h3⟩ := hg
    cases hs : sizeB g
    · exact right_in_size g A c _ _ hs h2
    · refine right_in g A c _ _ hs ?_ ?_ h3
      · have := Blk.new (w.alloc (.cells #[.int .i64 g.n, .slice A g.as.length c] 24)) 96 #[.int .u32 0, .int .i32 0, .int .u32 0, .slice A g.as.length c, .map none]
        rw [World.size_alloc] at this
        exact this
      · exact ((hp.alloc (Nat.le_refl _) _).more (Nat.le_succ _)).alloc (by simp) _
  go_enter Try.func42, Try.ntmps42
  go_wp2_with (go_at_call 72; refine hC.mono ?_; rintro e w2 ⟨rfl, hg2, hr2⟩)
  go_ret
  refine ⟨rfl, ?_⟩
  exact ((((Below.refl _ _).alloc (Nat.le_refl _) _).alloc (by simp) _).grown hg2 (by simp; omega) (by rintro k h; cases h; omega))

set_option maxHeartbeats 400000 in
theorem trivial_any (a b : Int) (w : World) (h0 : 0 ≤ a) (h1 : a ≤ 9223372036854775807) (h2 : 0 ≤ b) (h3 : b ≤ 9223372036854775807) :
    Calls Try.prog 73 #[.int .i64 a, .int .i64 b] w fun e w' => e = .returned (.tuple #[.int .i64 ((trivG a b).getD 0), .bool (trivG a b).isSome]) ∧ w' = w := by
  have hx := xor_is_one a b h0 h1 h2 h3
  go_enter Try.func73, Try.ntmps73
  go_wp2
  all_goals go_ret2
  all_goals refine ⟨?_, rfl⟩
  all_goals simp only [beq_iff_eq, beq_eq_false_iff_ne, ne_eq, Bool.not_eq_true', decide_eq_false_iff_not, Bool.not_eq_false', decide_eq_true_eq] at *
  all_goals clear hx
  all_goals (first
    | (have e : trivG a b = some 0 := if_pos (by omega)
       rw [e]; rfl)
    | (have e : trivG a b = some a := (if_neg (by omega)).trans (if_pos (by omega))
       rw [e]; rfl)
    | (have e : trivG a b = none := (if_neg (by omega)).trans (if_neg (by omega))
       rw [e]; rfl))

theorem pairInfo : (Try.prog.info? 41).map (fun i => (i.zero, i.size, i.bytes)) = some (some (.agg #[.int .i64 0, .int .i64 0]), 2, 16) := by kernel_rfl

/-- A graph, a literal and an error are handed back; nothing that was there turns. -/
def RetG (w : World) (Q : Nat → Prop) (r : Gr × Int × Int) (e : Ending) (w' : World) : Prop :=
  ∃ A c, e = .returned (.tuple #[.agg #[.int .i64 r.1.n, .slice A r.1.as.length c], .int .i64 r.2.1, .int .i64 r.2.2]) ∧ r.1.as.length ≤ c ∧ PrsQ w' (QNew w Q) A r.1.as ∧ Below w.heap.size w w'

/-- The world in which And looks whether its graph may be. -/
abbrev andW (w : World) (g : Gr) (A : Option Addr) (c : Nat) : World :=
  ((w.alloc (.cells #[.int .i64 g.n, .slice A g.as.length c] 24)).alloc (.cells #[.int .i64 0, .slice none 0 0] 24)).alloc (.cells #[.int .u32 0, .int .i32 0, .int .u32 0, .slice A g.as.length c, .map none] 96)

theorem andW_size (w : World) (g : Gr) (A : Option Addr) (c : Nat) : (andW w g A c).heap.size = w.heap.size + 3 := by simp [andW]
theorem andW_below (w : World) (g : Gr) (A : Option Addr) (c : Nat) : Below w.heap.size w (andW w g A c) :=
  (((Below.refl _ _).alloc (Nat.le_refl _) _).alloc (by simp) _).alloc (by simp; omega) _
theorem andW_g (w : World) (g : Gr) (A : Option Addr) (c : Nat) : Blk (andW w g A c) w.heap.size 24 #[.int .i64 g.n, .slice A g.as.length c] := ((Blk.new _ _ _).alloc _).alloc _
theorem andW_r (w : World) (g : Gr) (A : Option Addr) (c : Nat) : Blk (andW w g A c) (w.heap.size + 1) 24 #[.int .i64 0, .slice none 0 0] := by
  have := (Blk.new (w.alloc (.cells #[.int .i64 g.n, .slice A g.as.length c] 24)) 24 #[.int .i64 0, .slice none 0 0]).alloc (.cells #[.int .u32 0, .int .i32 0, .int .u32 0, .slice A g.as.length c, .map none] 96)
  rw [World.size_alloc] at this
  exact this
theorem andW_x (w : World) (g : Gr) (A : Option Addr) (c : Nat) : Fresh (andW w g A c) (w.heap.size + 1 + 1) A c g.as := by
  have := Blk.new ((w.alloc (.cells #[.int .i64 g.n, .slice A g.as.length c] 24)).alloc (.cells #[.int .i64 0, .slice none 0 0] 24)) 96 #[.int .u32 0, .int .i32 0, .int .u32 0, .slice A g.as.length c, .map none]
  rw [World.size_alloc, World.size_alloc] at this
  exact this

theorem and_right (g : Gr) (A : Option Addr) (c : Nat) (w : World) (hg : GOk g) (hp : Prs w w.heap.size A g.as) :
    Calls Try.prog 72 #[.agg #[.int .i64 g.n, .slice A g.as.length c], .pointer (some ⟨w.heap.size + 1 + 1, 0, none⟩)] (andW w g A c) fun e w' => RightIs (andW w g A c) w' (w.heap.size + 1 + 1) A c g e := by
  obtain ⟨h1, h2, h3⟩ := hg
  cases hs : sizeB g
  · exact right_in_size g A c _ _ hs h2
  · exact right_in g A c _ _ hs (andW_x w g A c) ((hp.below (andW_below w g A c)).more (by omega)) h3

set_option maxHeartbeats 400000 in
theorem and_no (g : Gr) (a b : Int) (A : Option Addr) (c : Nat) (w : World) (Q : Nat → Prop) (hg : GOk g) (hp : Prs w w.heap.size A g.as) (hr : rightB g = false) :
    Calls Try.prog 40 #[.agg #[.int .i64 g.n, .slice A g.as.length c], .int .i64 a, .int .i64 b] w (RetG w Q (noG, 0, 1)) := by
  have HC := Lib.hid (and_right g A c w hg hp)
  have hnot := @not_run Try.prog
  clear hg hp
  go_enter Try.func40, Try.ntmps40
  go_wp2_with (go_at_call 72; refine HC.out.mono ?_; rintro e w2 ⟨he, hg2, _⟩; rw [hr] at he; subst he; have hB2 : Blk w2 (w.heap.size + 1) 24 #[.int .i64 0, .slice none 0 0] := (andW_r w g A c).grown hg2 (by simp); have d0 : w2.cell? ⟨w.heap.size + 1, 0, none⟩ = some (.int .i64 0) := hB2.cell 0; have d1 : w2.cell? ⟨w.heap.size + 1, 1, none⟩ = some (.slice none 0 0) := hB2.cell 1; have f0 := hB2.frozen 0; have f1 := hB2.frozen 1)
  refine bodyPost_ret (v := .tuple #[.agg #[.int .i64 0, .slice none 0 0], .int .i64 0, .int .i64 1]) (by simp [results, Try.results40, go_sem, d0, d1]) rfl ?_
  refine ⟨none, 0, rfl, Nat.le_refl _, PrsQ.nil, ?_⟩
  exact ((((andW_below w g A c).grown hg2 (by rw [andW_size]; omega) (by rintro k h; cases h; omega)).setCell (p := ⟨w.heap.size + 1, 0, none⟩) (by simp) _).setCell (p := ⟨w.heap.size + 1, 1, none⟩) (by simp) _)

theorem clip_any (A : Option Addr) (n c : Nat) (w : World) (hc : n ≤ c) (_hn : n ≤ 2000) :
    Calls Try.prog 76 #[.slice A n c] w fun e w' => e = .returned (.slice A n n) ∧ w' = w := by
  go_enter Try.func76, Try.ntmps76
  go_wp2
  go_ret
  exact ⟨rfl, rfl⟩

theorem Ready.below {w w' : World} {b : Nat} {A : Option Addr} {c : Nat} {ps : List Pr} (h : Ready w b A c ps) (hb : Below w.heap.size w w') : Ready w' b A c ps := by
  obtain ⟨bm, D, n, h1, h2, h3⟩ := h
  exact ⟨bm, D, n, h1.below hb h1.lt, h2.kept (below_grown hb none) (by simp), h3⟩

/-- What And holds while it looks at its literals. -/
structure AndSt (w w' : World) (g : Gr) (A : Option Addr) (c : Nat) : Prop where
  below : Below w.heap.size w w'
  big : w.heap.size + 3 ≤ w'.heap.size
  gb : Blk w' w.heap.size 24 #[.int .i64 g.n, .slice A g.as.length c]
  rb : Blk w' (w.heap.size + 1) 24 #[.int .i64 0, .slice none 0 0]
  rd : Ready w' (w.heap.size + 1 + 1) A c g.as
  prs : Prs w' w.heap.size A g.as

theorem AndSt.step {w w' w'' : World} {g : Gr} {A : Option Addr} {c : Nat} (h : AndSt w w' g A c) (hb : Below w'.heap.size w' w'') : AndSt w w'' g A c :=
  ⟨below2 h.below h.below.size hb, Nat.le_trans h.big hb.size, h.gb.below hb h.gb.lt, h.rb.below hb h.rb.lt, h.rd.below hb, h.prs.below (hb.mono h.below.size)⟩

theorem AndSt.begin_ {w w' : World} {g : Gr} {A : Option Addr} {c : Nat} (hp : Prs w w.heap.size A g.as) (hg : (andW w g A c).grownBy w' (some (w.heap.size + 1 + 1))) (hr : Ready w' (w.heap.size + 1 + 1) A c g.as) : AndSt w w' g A c := by
  have hb : Below w.heap.size w w' := (andW_below w g A c).grown hg (by rw [andW_size]; omega) (by rintro k h; cases h; omega)
  refine ⟨hb, ?_, (andW_g w g A c).grown hg (by simp; omega), (andW_r w g A c).grown hg (by simp), hr, hp.below hb⟩
  have := hg.size
  rw [andW_size] at this
  exact this

theorem lit_yes (g : Gr) (l : Int) (x : Bool) (hx : litB g l = x) (A : Option Addr) (c : Nat) (w : World) (h2 : g.as.length ≤ 8796093022208) (h3 : l ≤ 9223372036854775807) :
    Calls Try.prog 44 #[.agg #[.int .i64 g.n, .slice A g.as.length c], .int .i64 l] w (Ret w (.bool x)) := by
  subst hx
  exact lit_any g l A c w h2 h3

/-- And's way to its literals, where the graph may be. -/
theorem and_no_lit (g : Gr) (a b : Int) (A : Option Addr) (c : Nat) (w : World) (Q : Nat → Prop) (hg : GOk g) (ha : a ≤ 9223372036854775807) (hb : b ≤ 9223372036854775807) (hp : Prs w w.heap.size A g.as) (hr : rightB g = true) (hl : (litB g a && litB g b) = false) :
    Calls Try.prog 40 #[.agg #[.int .i64 g.n, .slice A g.as.length c], .int .i64 a, .int .i64 b] w (RetG w Q (noG, 0, 1)) := by
  have HC := Lib.hid (and_right g A c w hg hp)
  have hnot := @not_run Try.prog
  have hgl : g.as.length ≤ 8796093022208 := hg.2.1
  have HP := Lib.hid hp
  have HR := Lib.hid hr
  clear hg hp hr
  cases hla : litB g a
  · have HLA := Lib.hid hla
    clear hl hla
    go_enter Try.func40, Try.ntmps40
    go_wp2_with fail
    refine HC.out.mono ?_
    rintro e w2 ⟨he, hg2, hrd⟩
    rw [HR.out] at he
    subst he
    have st := AndSt.begin_ HP.out hg2 (hrd HR.out)
    have e0 : w2.cell? ⟨w.heap.size, 0, none⟩ = some (.int .i64 g.n) := st.gb.cell 0
    have e1 : w2.cell? ⟨w.heap.size, 1, none⟩ = some (.slice A g.as.length c) := st.gb.cell 1
    have ST := Lib.hid st
    clear st hg2 hrd
    go_wp2_with fail
    refine (lit_yes g a false HLA.out A c _ hgl ha).mono ?_
    rintro e w3 ⟨rfl, hb3⟩
    have st := ST.out.step hb3
    have d0 : w3.cell? ⟨w.heap.size + 1, 0, none⟩ = some (.int .i64 0) := st.rb.cell 0
    have d1 : w3.cell? ⟨w.heap.size + 1, 1, none⟩ = some (.slice none 0 0) := st.rb.cell 1
    have f0 := st.rb.frozen 0
    have f1 := st.rb.frozen 1
    have ST3 := Lib.hid st
    clear st hb3 e0 e1
    go_wp2_with fail
    refine bodyPost_ret (v := .tuple #[.agg #[.int .i64 0, .slice none 0 0], .int .i64 0, .int .i64 1]) (by simp [results, Try.results40, go_sem, d0, d1]) rfl ?_
    exact ⟨none, 0, rfl, Nat.le_refl _, PrsQ.nil, (ST3.out.below.setCell (p := ⟨w.heap.size + 1, 0, none⟩) (by simp) _).setCell (p := ⟨w.heap.size + 1, 1, none⟩) (by simp) _⟩
  · have hlb : litB g b = false := by rw [hla] at hl; simpa using hl
    have HLA := Lib.hid hla
    have HLB := Lib.hid hlb
    clear hl hla hlb
    go_enter Try.func40, Try.ntmps40
    go_wp2_with fail
    refine HC.out.mono ?_
    rintro e w2 ⟨he, hg2, hrd⟩
    rw [HR.out] at he
    subst he
    have st := AndSt.begin_ HP.out hg2 (hrd HR.out)
    have e0 : w2.cell? ⟨w.heap.size, 0, none⟩ = some (.int .i64 g.n) := st.gb.cell 0
    have e1 : w2.cell? ⟨w.heap.size, 1, none⟩ = some (.slice A g.as.length c) := st.gb.cell 1
    have ST := Lib.hid st
    clear st hg2 hrd
    go_wp2_with fail
    refine (lit_yes g a true HLA.out A c _ hgl ha).mono ?_
    rintro e w3 ⟨rfl, hb3⟩
    have st := ST.out.step hb3
    have e0 : w3.cell? ⟨w.heap.size, 0, none⟩ = some (.int .i64 g.n) := st.gb.cell 0
    have e1 : w3.cell? ⟨w.heap.size, 1, none⟩ = some (.slice A g.as.length c) := st.gb.cell 1
    have ST3 := Lib.hid st
    clear st hb3
    go_wp2_with fail
    refine (lit_yes g b false HLB.out A c _ hgl hb).mono ?_
    rintro e w4 ⟨rfl, hb4⟩
    have st := ST3.out.step hb4
    have d0 : w4.cell? ⟨w.heap.size + 1, 0, none⟩ = some (.int .i64 0) := st.rb.cell 0
    have d1 : w4.cell? ⟨w.heap.size + 1, 1, none⟩ = some (.slice none 0 0) := st.rb.cell 1
    have f0 := st.rb.frozen 0
    have f1 := st.rb.frozen 1
    have ST4 := Lib.hid st
    clear st hb4 e0 e1
    go_wp2_with fail
    refine bodyPost_ret (v := .tuple #[.agg #[.int .i64 0, .slice none 0 0], .int .i64 0, .int .i64 1]) (by simp [results, Try.results40, go_sem, d0, d1]) rfl ?_
    exact ⟨none, 0, rfl, Nat.le_refl _, PrsQ.nil, (ST4.out.below.setCell (p := ⟨w.heap.size + 1, 0, none⟩) (by simp) _).setCell (p := ⟨w.heap.size + 1, 1, none⟩) (by simp) _⟩

set_option maxRecDepth 100000 in
set_option maxHeartbeats 1000000 in
theorem and_hi (g : Gr) (a b x y : Int) (hxy : (x = a ∧ y = b) ∨ (x = b ∧ y = a)) (hlt : y < x) (A : Option Addr) (c : Nat) (w : World) (Q : Nat → Prop) (hg : GOk g) (hy0 : 0 ≤ y) (hx1 : x ≤ 4001) (hc : g.as.length ≤ c) (hq : PrsQ w Q A g.as) (hr : rightB g = true) (hla : litB g a = true) (hlb : litB g b = true) :
    Calls Try.prog 40 #[.agg #[.int .i64 g.n, .slice A g.as.length c], .int .i64 a, .int .i64 b] w (RetG w Q (andHi g x y)) := by
  have hp := hq.prs
  have HQ := Lib.hid hq.new
  clear hq
  have HC := Lib.hid (and_right g A c w hg hp)
  have hnot := @not_run Try.prog
  have hgl : g.as.length ≤ 8796093022208 := hg.2.1
  have HP := Lib.hid hp
  have HR := Lib.hid hr
  have HG := Lib.hid hg
  clear hg hp hr
  rcases hxy with ⟨rfl, rfl⟩ | ⟨rfl, rfl⟩
  all_goals
    have HLA := Lib.hid hla
    have HLB := Lib.hid hlb
    clear hla hlb
    go_enter Try.func40, Try.ntmps40
    go_wp2_with fail
    refine HC.out.mono ?_
    rintro e w2 ⟨he, hg2, hrd⟩
    rw [HR.out] at he
    subst he
    have st := AndSt.begin_ HP.out hg2 (hrd HR.out)
    have e0 : w2.cell? ⟨w.heap.size, 0, none⟩ = some (.int .i64 g.n) := st.gb.cell 0
    have e1 : w2.cell? ⟨w.heap.size, 1, none⟩ = some (.slice A g.as.length c) := st.gb.cell 1
    have ST := Lib.hid st
    clear st hg2 hrd HC
    go_wp2_with fail
    refine (lit_yes g _ true HLA.out A c _ hgl (by omega)).mono ?_
    rintro e w3 ⟨rfl, hb3⟩
    have st := ST.out.step hb3
    clear e0 e1
    have e0 : w3.cell? ⟨w.heap.size, 0, none⟩ = some (.int .i64 g.n) := st.gb.cell 0
    have e1 : w3.cell? ⟨w.heap.size, 1, none⟩ = some (.slice A g.as.length c) := st.gb.cell 1
    have ST3 := Lib.hid st
    clear st hb3
    go_wp2_with fail
    refine (lit_yes g _ true HLB.out A c _ hgl (by omega)).mono ?_
    rintro e w4 ⟨rfl, hb4⟩
    have st := ST3.out.step hb4
    clear e0 e1
    have e0 : w4.cell? ⟨w.heap.size, 0, none⟩ = some (.int .i64 g.n) := st.gb.cell 0
    have e1 : w4.cell? ⟨w.heap.size, 1, none⟩ = some (.slice A g.as.length c) := st.gb.cell 1
    have d0 : w4.cell? ⟨w.heap.size + 1, 0, none⟩ = some (.int .i64 0) := st.rb.cell 0
    have d1 : w4.cell? ⟨w.heap.size + 1, 1, none⟩ = some (.slice none 0 0) := st.rb.cell 1
    have f0 := st.rb.frozen 0
    have f1 := st.rb.frozen 1
    have ST4 := Lib.hid st
    clear st hb4 ST ST3 HLA HLB
    go_wp2_with fail
  all_goals
    refine (trivial_any x y _ (by omega) (by omega) hy0 (by omega)).mono ?_
    rintro e w5 ⟨rfl, rfl⟩
    cases ht : trivG x y with
    | some l =>
      have HT := Lib.hid ht
      clear ht
      go_wp2_with fail
      refine bodyPost_ret (v := .tuple #[.agg #[.int .i64 g.n, .slice A g.as.length c], .int .i64 l, .int .i64 0]) (by simp [results, Try.results40, go_sem, d0, d1]) rfl ?_
      have hb5 := (ST4.out.below.setCell (p := ⟨w.heap.size + 1, 0, none⟩) (by simp) (.int .i64 g.n)).setCell (p := ⟨w.heap.size + 1, 1, none⟩) (by simp) (.slice A g.as.length c)
      have e : andHi g x y = (g, l, 0) := by unfold andHi; rw [HT.out]
      rw [e]
      exact ⟨A, c, rfl, hc, HQ.out.below hb5, hb5⟩
    | none =>
      have HT := Lib.hid ht
      clear ht
      go_wp2_with fail
      refine (find_ready (w.heap.size + 1 + 1) A c g.as x y _ ST4.out.rd ⟨(wf_iff _).2 (by dsimp only; omega), (wf_iff _).2 (by dsimp only; omega)⟩ ((right_iff g).1 HR.out).2.2).mono ?_
      rintro e w6 ⟨hf, hb6⟩
      have st := ST4.out.step hb6
      clear e0 e1 d0 d1 f0 f1
      have e0 : w6.cell? ⟨w.heap.size, 0, none⟩ = some (.int .i64 g.n) := st.gb.cell 0
      have e1 : w6.cell? ⟨w.heap.size, 1, none⟩ = some (.slice A g.as.length c) := st.gb.cell 1
      have d0 : w6.cell? ⟨w.heap.size + 1, 0, none⟩ = some (.int .i64 0) := st.rb.cell 0
      have d1 : w6.cell? ⟨w.heap.size + 1, 1, none⟩ = some (.slice none 0 0) := st.rb.cell 1
      have f0 := st.rb.frozen 0
      have f1 := st.rb.frozen 1
      have ST6 := Lib.hid st
      obtain ⟨⟨n0, n1, n2, n3⟩, _, hnd⟩ := (right_iff g).1 HR.out
      clear st hb6 ST4
      rcases hf with ⟨i, hi, rfl⟩ | ⟨hi, rfl⟩
      · have hil : i < g.as.length := (List.getElem?_eq_some_iff.1 hi).1
        have HI : Hid (andHi g x y = (g, 2 * (g.n + 1 + i), 0)) := by
          show andHi g x y = _
          unfold andHi
          rw [HT.out]
          simp only []
          rw [placeOf_at hnd hi]
        clear hi hnd
        go_wp2_with fail
        go_region
        all_goals go_wp2_with fail
        all_goals
          refine bodyPost_ret (v := .tuple #[.agg #[.int .i64 g.n, .slice A g.as.length c], .int .i64 (2 * (g.n + 1 + i)), .int .i64 0]) (by simp [results, Try.results40, go_sem, d0, d1]) rfl ?_
          have hb7 := (ST6.out.below.drew.setCell (p := ⟨w.heap.size + 1, 0, none⟩) (by simp) (.int .i64 g.n)).setCell (p := ⟨w.heap.size + 1, 1, none⟩) (by simp) (.slice A g.as.length c)
          rw [HI.out]
          exact ⟨A, c, rfl, hc, HQ.out.below hb7, hb7⟩
      · have HI : Hid (andHi g x y = if g.vars ≥ 2000 then (noG, 0, 2) else (⟨g.n, g.as ++ [(x, y)]⟩, 2 * g.vars, 0)) := by
          show andHi g x y = _
          unfold andHi
          rw [HT.out]
          simp only []
          rw [placeOf_none.2 hi]
        clear hi hnd
        go_wp2_with fail
        refine (vars_any g.n A g.as.length c _ n0 n1 hgl).mono ?_
        rintro e w7 ⟨rfl, hb7⟩
        have st := ST6.out.step hb7
        clear e0 e1 d0 d1 f0 f1
        have e0 : w7.cell? ⟨w.heap.size, 0, none⟩ = some (.int .i64 g.n) := st.gb.cell 0
        have e1 : w7.cell? ⟨w.heap.size, 1, none⟩ = some (.slice A g.as.length c) := st.gb.cell 1
        have d0 : w7.cell? ⟨w.heap.size + 1, 0, none⟩ = some (.int .i64 0) := st.rb.cell 0
        have d1 : w7.cell? ⟨w.heap.size + 1, 1, none⟩ = some (.slice none 0 0) := st.rb.cell 1
        have f0 := st.rb.frozen 0
        have f1 := st.rb.frozen 1
        have ST7 := Lib.hid st
        clear st hb7 ST6
        by_cases hv : g.n + 1 + g.as.length ≥ 2000
        · have HI2 : Hid (andHi g x y = (noG, 0, 2)) := HI.out.trans (if_pos hv)
          go_wp2_with fail
          refine bodyPost_ret (v := .tuple #[.agg #[.int .i64 0, .slice none 0 0], .int .i64 0, .int .i64 2]) (by simp [results, Try.results40, go_sem, d0, d1]) rfl ?_
          rw [HI2.out]
          exact ⟨none, 0, rfl, Nat.le_refl _, PrsQ.nil, (ST7.out.below.setCell (p := ⟨w.heap.size + 1, 0, none⟩) (by simp) _).setCell (p := ⟨w.heap.size + 1, 1, none⟩) (by simp) _⟩
        · have HI2 : Hid (andHi g x y = (⟨g.n, g.as ++ [(x, y)]⟩, 2 * g.vars, 0)) := HI.out.trans (if_neg hv)
          have hv' : g.n + 1 + g.as.length < 2000 := by omega
          clear hv
          go_wp2_with fail
          refine (clip_any A g.as.length c _ hc (by omega)).mono ?_
          rintro e w8 ⟨rfl, rfl⟩
          have hB : Below w.heap.size w (w8.alloc (.cells #[.int .i64 x, .int .i64 y] 41)) := ST7.out.below.alloc ST7.out.below.size _
          have hV := ((HP.out.below hB).vals)
          have HV := Lib.hid hV
          have HL : Hid ((flat g.as).length = g.as.length * 2) := flat_length g.as
          clear hV
          obtain ⟨i0, hi0, hz0, hz1, hz2⟩ := info_parts pairInfo
          go_wp2_with (at_builtin; refine wpList_append_grows _ rfl (.tmp 74) (.tmp 78) _ rfl 41 i0 _ 2 16 Try.underlying22 hi0 hz0 hz1 hz2 rfl (by omega) A g.as.length g.as.length (flat g.as) rfl (fun h => by rw [HP.out.none_ h]; exact ⟨rfl, rfl⟩) HL.out HV.out.cells ⟨w8.heap.size, 0, none⟩ 1 1 [.int .i64 x, .int .i64 y] rfl rfl (cells_new w8 [.int .i64 x, .int .i64 y] 41) (flat_one [(x, y)]) (by omega) (by unfold maxLen; omega) (by omega) ?_; intro v' w9 hown hg9; obtain ⟨A9, c9, hv9, hc9⟩ := own_form hown; have hb9 : Below w8.heap.size w8 w9 := ((Below.refl _ _).alloc (Nat.le_refl _) _).grown hg9 (by simp) (by simp); have st := ST7.out.step hb9; clear e0 e1 d0 d1 f0 f1; have e0 : w9.cell? ⟨w.heap.size, 0, none⟩ = some (.int .i64 g.n) := st.gb.cell 0; have e1 : w9.cell? ⟨w.heap.size, 1, none⟩ = some (.slice A g.as.length c) := st.gb.cell 1; have d0 : w9.cell? ⟨w.heap.size + 1, 0, none⟩ = some (.int .i64 0) := st.rb.cell 0; have d1 : w9.cell? ⟨w.heap.size + 1, 1, none⟩ = some (.slice none 0 0) := st.rb.cell 1; have f0 := st.rb.frozen 0; have f1 := st.rb.frozen 1; have f2 := st.gb.frozen 1; subst hv9; have HW := Lib.hid hown; have ST9 := Lib.hid st; clear hown hg9 st hb9)
          refine bodyPost_ret (v := .tuple #[.agg #[.int .i64 g.n, .slice A9 (g.as.length + 1) c9], .int .i64 (2 * (g.n + 1 + g.as.length)), .int .i64 0]) (by simp [results, Try.results40, go_sem, d0, d1]) rfl ?_
          have hbig := ST7.out.big
          have own := ownsRow_setCell_below (ownsRow_setCell_below (ownsRow_setCell_below HW.out (a := ⟨w.heap.size, 1, none⟩) (by simp; omega) (.slice A9 (g.as.length + 1) c9)) (a := ⟨w.heap.size + 1, 0, none⟩) (by simp; omega) (.int .i64 g.n)) (a := ⟨w.heap.size + 1, 1, none⟩) (by simp; omega) (.slice A9 (g.as.length + 1) c9)
          have hb10 := ((ST9.out.below.setCell (p := ⟨w.heap.size, 1, none⟩) (by simp) (.slice A9 (g.as.length + 1) c9)).setCell (p := ⟨w.heap.size + 1, 0, none⟩) (by simp) (.int .i64 g.n)).setCell (p := ⟨w.heap.size + 1, 1, none⟩) (by simp) (.slice A9 (g.as.length + 1) c9)
          rw [HI2.out]
          refine ⟨A9, c9, ?_, ?_, ?_, hb10⟩
          · simp [Gr.vars]
          · simpa using hc9
          · exact PrsQ.of_own (by rw [flat_append]; exact own) (fun b hb => .inr (by simp at hb; omega))
end Go.Proofs.Ytbdhkagcbncefaa
