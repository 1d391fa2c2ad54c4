/- ConeTwice's walk. -/
import Derived.Test.YtbdhkagcbncefaaG6
import Derived.Test.YtbdhkagcbncefaaG5
import Derived.Test.YtbdhkagcbncefaaPBy
set_option linter.unusedVariables false
set_option linter.unusedSimpArgs false
namespace Go.Proofs.Ytbdhkagcbncefaa
open Go.RowKit Go.Maps

theorem GBox.put {w : World} {b : Nat} {g h : Gr} {B B3 : Option Addr} {d d3 : Nat} (k : GBox w b g B d) (hc : h.as.length ≤ d3) (hp : Prs w w.heap.size B3 h.as) : GBox ((w.setCell ⟨b, 0, none⟩ (.int .i64 h.n)).setCell ⟨b, 1, none⟩ (.slice B3 h.as.length d3)) b h B3 d3 :=
  ⟨(k.blk.set_ 0 (.int .i64 h.n)).set_ 1 (.slice B3 h.as.length d3), hc, (Prs.beside hp k.blk 0 (.int .i64 h.n)).beside (k.blk.set_ 0 (.int .i64 h.n)) 1 (.slice B3 h.as.length d3)⟩
theorem GBox.beside {w : World} {b b' : Nat} {g g' : Gr} {B B' : Option Addr} {d d' : Nat} (k : GBox w b g B d) (k' : GBox w b' g' B' d') (hne : b ≠ b') (z : Int) (u : Value) : GBox ((w.setCell ⟨b', 0, none⟩ (.int .i64 z)).setCell ⟨b', 1, none⟩ u) b g B d :=
  ⟨(k.blk.far (p := ⟨b', 0, none⟩) hne _).far (p := ⟨b', 1, none⟩) hne _, k.cap, (Prs.beside k.prs k'.blk 0 (.int .i64 z)).beside (k'.blk.set_ 0 (.int .i64 z)) 1 u⟩

set_option maxRecDepth 100000 in
set_option maxHeartbeats 4000000 in
theorem coneTwice_any (n : Int) (xs : List Int) (A : Option Addr) (cp : Nat) (a b q c : Int) (w : World) (hn : 0 ≤ n ∧ n ≤ 255) (hx : U16 xs) (hcp : xs.length ≤ cp) (hcl : cp ≤ 70368744177664) (hp : Vals w w.heap.size A (u16s xs)) (ha : 0 ≤ a ∧ a ≤ 255) (hb : 0 ≤ b ∧ b ≤ 255) (hq : 0 ≤ q ∧ q ≤ 255) (hc : 0 ≤ c ∧ c ≤ 255) :
    Calls Try.prog 26 #[.int .u8 n, .slice A xs.length cp, .int .u8 a, .int .u8 b, .int .u8 q, .int .u8 c] w (Ret w (.bool true)) := by
  have hnot := @not_run Try.prog
  have HM := Lib.hid (fun (w1 : World) (h : Below w.heap.size w w1) => made_any (2 + n % 5) xs A cp w1 (by omega) (by omega) hx (by omega) (hp.after h))
  have HI := Lib.hid (madeG_inv (n := 2 + n % 5) (by omega) (by omega) xs)
  generalize madeG (2 + n % 5) xs = s at HM HI
  have n0 : 0 ≤ s.1.n := by rw [HI.out.n]; omega
  have n1 : s.1.n ≤ 6 := by rw [HI.out.n]; omega
  have l1 : s.1.as.length ≤ 40 := HI.out.len
  obtain ⟨N, hN⟩ : ∃ N : Nat, s.1.n = (N : Int) := ⟨s.1.n.toNat, by omega⟩
  have HN := Lib.hid hN
  have hN6 : N ≤ 6 := by omega
  have hll := lit_lt HI.out.lit
  have hl1 : s.2 ≤ 9223372036854775807 := by unfold Gr.vars at hll; omega
  clear hN hll
  have np : 2 ≤ s.1.n := by rw [HI.out.n]; omega
  have hmz : (s.1.n == 0) = false := by rw [beq_eq_false_iff_ne]; omega
  have hmz2 : ¬ s.1.n = 0 := by omega
  obtain ⟨x, hxe⟩ : ∃ x, x = 1 + a % s.1.n := ⟨_, rfl⟩
  obtain ⟨y, hye⟩ : ∃ y, y = 1 + b % s.1.n := ⟨_, rfl⟩
  have x1 : 1 ≤ x ∧ x ≤ s.1.n := by have := Int.emod_nonneg a (b := s.1.n) (by omega); have := Int.emod_lt_of_pos a (b := s.1.n) (by omega); omega
  have y1 : 1 ≤ y ∧ y ≤ s.1.n := by have := Int.emod_nonneg b (b := s.1.n) (by omega); have := Int.emod_lt_of_pos b (b := s.1.n) (by omega); omega
  obtain ⟨P, hP⟩ : ∃ P, (c % 2 == 1) = P := ⟨_, rfl⟩
  obtain ⟨Q, hQ⟩ : ∃ Q, (c / 2 % 2 == 1) = Q := ⟨_, rfl⟩
  have hv0 : s.1.vars ≤ 47 := by unfold Gr.vars; omega
  obtain ⟨h1, a1, F1⟩ := fixed_of (v := P) HI.out.right HI.out.lit x1.1 x1.2 (by omega)
  obtain ⟨j1, c1, F3⟩ := fixed_of (v := Q) HI.out.right HI.out.lit y1.1 y1.2 (by omega)
  have hv1 := F1.grows.vars
  have hv3 := F3.grows.vars
  obtain ⟨h2, a2, F2⟩ := fixed_of (v := Q) F1.grows.right F1.grows.lit y1.1 (by rw [F1.grows.n]; exact y1.2) (by unfold Gr.vars at hv1 hv0 ⊢; have := F1.grows.n; omega)
  obtain ⟨j2, c2, F4⟩ := fixed_of (v := P) F3.grows.right F3.grows.lit x1.1 (by rw [F3.grows.n]; exact x1.2) (by unfold Gr.vars at hv3 hv0 ⊢; have := F3.grows.n; omega)
  have b1 := lit_small F1.grows.right F1.grows.lit
  have b2 := lit_small F2.grows.right F2.grows.lit
  have b3 := lit_small F3.grows.right F3.grows.lit
  have b4 := lit_small F4.grows.right F4.grows.lit
  have hn2 : h2.n = s.1.n := F2.grows.n.trans F1.grows.n
  have hn4 : j2.n = s.1.n := F4.grows.n.trans F3.grows.n
  have HC1 := Lib.hid (fun (B : Option Addr) (d : Nat) (W : World) (k1 : s.1.as.length ≤ d) (k2 : Prs W W.heap.size B s.1.as) => cfix_any s.1 s.2 x P B d W HI.out.ok hl1 (by omega) k1 k2)
  have HC2 := Lib.hid (fun (B : Option Addr) (d : Nat) (W : World) (k1 : h1.as.length ≤ d) (k2 : Prs W W.heap.size B h1.as) => cfix_any h1 a1 y Q B d W (ok_of_right F1.grows.right) (by omega) (by omega) k1 k2)
  have HC3 := Lib.hid (fun (B : Option Addr) (d : Nat) (W : World) (k1 : s.1.as.length ≤ d) (k2 : Prs W W.heap.size B s.1.as) => cfix_any s.1 s.2 y Q B d W HI.out.ok hl1 (by omega) k1 k2)
  have HC4 := Lib.hid (fun (B : Option Addr) (d : Nat) (W : World) (k1 : j1.as.length ≤ d) (k2 : Prs W W.heap.size B j1.as) => cfix_any j1 c1 x P B d W (ok_of_right F3.grows.right) (by omega) (by omega) k1 k2)
  rw [F1.is] at HC1
  rw [F2.is] at HC2
  rw [F3.is] at HC3
  rw [F4.is] at HC4
  have HSU := Lib.hid (fun (B : Option Addr) (d : Nat) (W : World) (k2 : Prs W W.heap.size B h2.as) => support_any h2 a2 B d W (ok_of_right F2.grows.right) (by omega) k2)
  have HEH := Lib.hid (fun (us : List Bool) (hu : us.length = N) (B I : Option Addr) (d ci : Nat) (W : World) (k1 : h2.as.length ≤ d) (k2 : Prs W W.heap.size B h2.as) (k3 : us.length ≤ ci) (k4 : Vals W W.heap.size I (bools us)) => reval_any h2 a2 us B I d ci W (ok_of_right F2.grows.right) k1 k2 k3 (by omega) k4 (by omega))
  have HEJ := Lib.hid (fun (us : List Bool) (hu : us.length = N) (B I : Option Addr) (d ci : Nat) (W : World) (k1 : j2.as.length ≤ d) (k2 : Prs W W.heap.size B j2.as) (k3 : us.length ≤ ci) (k4 : Vals W W.heap.size I (bools us)) => reval_any j2 c2 us B I d ci W (ok_of_right F4.grows.right) k1 k2 k3 (by omega) k4 (by omega))
  have HF1 := Lib.hid F1
  have HF2 := Lib.hid F2
  have HF3 := Lib.hid F3
  have HF4 := Lib.hid F4
  have HX1 := Lib.hid x1
  have HY1 := Lib.hid y1
  have hwa : IntKind.i64.wrap a = a := IntWalk.i64_in _ (by omega)
  have hwb : IntKind.i64.wrap b = b := IntWalk.i64_in _ (by omega)
  have hma : a.tmod s.1.n = a % s.1.n := Int.tmod_eq_emod_of_nonneg (by omega)
  have hmb : b.tmod s.1.n = b % s.1.n := Int.tmod_eq_emod_of_nonneg (by omega)
  have hxe' := hxe.symm
  have hye' := hye.symm
  have hwx : IntKind.i64.wrap x = x := IntWalk.i64_in _ (by omega)
  have hwy : IntKind.i64.wrap y = y := IntWalk.i64_in _ (by omega)
  clear hx hp hxe hye F1 F2 F3 F4 hv0 hv1 hv3 hn4 hn2
  go_enter Try.func26, Try.ntmps26
  go_wp2_with fail
  refine (awake3_any _).mono ?_
  rintro e w0 ⟨rfl, hb⟩
  have HL := Lib.hid ((Low.refl w).step hb)
  clear hb
  go_wp2_with fail
  refine (HM.out w0 HL.out.b).mono ?_
  rintro e w1 ⟨B, d, rfl, hc1, hp1, hb⟩
  replace HL := Lib.hid (HL.out.step hb)
  replace HL := Lib.hid (HL.out.step (stepA w1 (.cells #[.int .i64 s.1.n, .slice B s.1.as.length d] 24)))
  have HG := Lib.hid (GBox.new hc1 hp1)
  clear hb hp1 hc1 HM
  have c0 := HG.out.c0
  have c1 := HG.out.c1
  go_wp2_with fail
  replace HL := Lib.hid (HL.out.step (stepD1 _)); replace HG := Lib.hid (HG.out.step (stepD1 _))
  refine wp_region_noPanic ?_
  refine wp_region_seq (fun W => W.cell? ⟨w1.heap.size, 0, none⟩ = some (.int .i64 s.1.n)) [0, 1, 2, 3, 4, 5, 6, 7, 8, 9, 10, 11, 12, 13] [0, 1, 2, 3, 4, 5, 6, 7, 8, 9, 10, 11, 12, 13] [] (by kernel_rfl) (by kernel_rfl) rfl (by kernel_rfl) (by kernel_rfl) (fun _ _ _ _ _ h => h) ?_ (fun hSS => ?_)
  · exact HG.out.c0
  clear hSS
  (refine wpSeq_mov rfl rfl ?_; intro o ho; simp only [List.getElem?_toArray, List.getElem?_cons_zero, List.getElem?_cons_succ, Option.some.injEq] at ho; subst ho; refine ⟨?_, Or.inl ⟨by rfl, fun W hSW => ?_⟩, ?_⟩; rotate_left; (focus (go_simp; first | done | with_reducible rfl)); try simp only [Act.put, List.setIfInBounds_toArray, List.set_cons_zero, List.set_cons_succ])
  (refine wpSeq_mov rfl rfl ?_; intro o ho; simp only [List.getElem?_toArray, List.getElem?_cons_zero, List.getElem?_cons_succ, Option.some.injEq] at ho; subst ho; refine ⟨?_, Or.inl ⟨by rfl, fun W hSW => ?_⟩, ?_⟩; rotate_left; (focus (go_simp; first | done | with_reducible rfl)); try simp only [Act.put, List.setIfInBounds_toArray, List.set_cons_zero, List.set_cons_succ])
  (refine wpSeq_mov rfl rfl ?_; intro o ho; simp only [List.getElem?_toArray, List.getElem?_cons_zero, List.getElem?_cons_succ, Option.some.injEq] at ho; subst ho; refine ⟨?_, Or.inl ⟨by rfl, fun W hSW => ?_⟩, ?_⟩; rotate_left; (focus (go_simp; first | done | with_reducible rfl)); try simp only [Act.put, List.setIfInBounds_toArray, List.set_cons_zero, List.set_cons_succ])
  (refine wpSeq_mov rfl rfl ?_; intro o ho; simp only [List.getElem?_toArray, List.getElem?_cons_zero, List.getElem?_cons_succ, Option.some.injEq] at ho; subst ho; refine ⟨?_, Or.inl ⟨by rfl, fun W hSW => ?_⟩, ?_⟩; rotate_left; (focus (go_simp; first | done | with_reducible rfl)); try simp only [Act.put, List.setIfInBounds_toArray, List.set_cons_zero, List.set_cons_succ])
  (refine wpSeq_mov rfl rfl ?_; intro o ho; simp only [List.getElem?_toArray, List.getElem?_cons_zero, List.getElem?_cons_succ, Option.some.injEq] at ho; subst ho; refine ⟨?_, Or.inl ⟨by rfl, fun W hSW => ?_⟩, ?_⟩; rotate_left; (focus (go_simp; first | done | with_reducible rfl)); try simp only [Act.put, List.setIfInBounds_toArray, List.set_cons_zero, List.set_cons_succ])
  (refine wpSeq_mov rfl rfl ?_; intro o ho; simp only [List.getElem?_toArray, List.getElem?_cons_zero, List.getElem?_cons_succ, Option.some.injEq] at ho; subst ho; refine ⟨?_, Or.inl ⟨by rfl, fun W hSW => ?_⟩, ?_⟩; rotate_left; (focus (go_simp; first | done | with_reducible rfl)); try simp only [Act.put, List.setIfInBounds_toArray, List.set_cons_zero, List.set_cons_succ])
  (refine wpSeq_mov rfl rfl ?_; intro o ho; simp only [List.getElem?_toArray, List.getElem?_cons_zero, List.getElem?_cons_succ, Option.some.injEq] at ho; subst ho; refine ⟨?_, Or.inl ⟨by rfl, fun W hSW => ?_⟩, ?_⟩; rotate_left; (focus (go_simp; first | done | with_reducible rfl)); try simp only [Act.put, List.setIfInBounds_toArray, List.set_cons_zero, List.set_cons_succ])
  (refine wpSeq_mov rfl rfl ?_; intro o ho; simp only [List.getElem?_toArray, List.getElem?_cons_zero, List.getElem?_cons_succ, Option.some.injEq] at ho; subst ho; refine ⟨?_, Or.inl ⟨by rfl, fun W hSW => ?_⟩, ?_⟩; rotate_left; (focus (go_simp; first | done | with_reducible rfl)); try simp only [Act.put, List.setIfInBounds_toArray, List.set_cons_zero, List.set_cons_succ])
  (refine wpSeq_mov rfl rfl ?_; intro o ho; simp only [List.getElem?_toArray, List.getElem?_cons_zero, List.getElem?_cons_succ, Option.some.injEq] at ho; subst ho; refine ⟨?_, Or.inl ⟨by rfl, fun W hSW => ?_⟩, ?_⟩; rotate_left; (focus (go_simp; first | done | with_reducible rfl)); try simp only [Act.put, List.setIfInBounds_toArray, List.set_cons_zero, List.set_cons_succ])
  (refine wpSeq_mov rfl rfl ?_; intro o ho; simp only [List.getElem?_toArray, List.getElem?_cons_zero, List.getElem?_cons_succ, Option.some.injEq] at ho; subst ho; refine ⟨?_, Or.inl ⟨by rfl, fun W hSW => ?_⟩, ?_⟩; rotate_left; (focus (go_simp; first | done | with_reducible rfl)); try simp only [Act.put, List.setIfInBounds_toArray, List.set_cons_zero, List.set_cons_succ])
  (refine wpSeq_mov rfl rfl ?_; intro o ho; simp only [List.getElem?_toArray, List.getElem?_cons_zero, List.getElem?_cons_succ, Option.some.injEq] at ho; subst ho; refine ⟨?_, Or.inl ⟨by rfl, fun W hSW => ?_⟩, ?_⟩; rotate_left; (focus (go_simp; first | done | with_reducible rfl)); try simp only [Act.put, List.setIfInBounds_toArray, List.set_cons_zero, List.set_cons_succ])
  (refine wpSeq_mov rfl rfl ?_; intro o ho; simp only [List.getElem?_toArray, List.getElem?_cons_zero, List.getElem?_cons_succ, Option.some.injEq] at ho; subst ho; refine ⟨?_, Or.inl ⟨by rfl, fun W hSW => ?_⟩, ?_⟩; rotate_left; (focus (go_simp; first | done | with_reducible rfl)); try simp only [Act.put, List.setIfInBounds_toArray, List.set_cons_zero, List.set_cons_succ])
  (refine wpSeq_mov rfl rfl ?_; intro o ho; simp only [List.getElem?_toArray, List.getElem?_cons_zero, List.getElem?_cons_succ, Option.some.injEq] at ho; subst ho; refine ⟨?_, Or.inl ⟨by rfl, fun W hSW => ?_⟩, ?_⟩; rotate_left; (focus (go_simp; first | done | with_reducible rfl)); try simp only [Act.put, List.setIfInBounds_toArray, List.set_cons_zero, List.set_cons_succ])
  (refine wpSeq_mov rfl rfl ?_; intro o ho; simp only [List.getElem?_toArray, List.getElem?_cons_zero, List.getElem?_cons_succ, Option.some.injEq] at ho; subst ho; refine ⟨?_, Or.inl ⟨by rfl, fun W hSW => ?_⟩, ?_⟩; rotate_left; (focus (go_simp; first | done | with_reducible rfl)); try simp only [Act.put, List.setIfInBounds_toArray, List.set_cons_zero, List.set_cons_succ])
  refine wpSeq_done ?_
  by_cases hxy : x = y
  · have hxy' : (x == y) = true := by rw [hxy]; simp
    clear hxy
    go_wp2_with fail
    go_ret
    exact ⟨rfl, HL.out.b⟩
  · have hxy' : (x == y) = false := by rw [beq_eq_false_iff_ne]; exact hxy
    have HXY := Lib.hid hxy
    clear hxy c0 c1
    have c0 := HG.out.c0
    have c1 := HG.out.c1
    go_wp2_with fail
    refine (HC1.out B d _ HG.out.cap HG.out.prs).mono ?_
    rintro e w2 ⟨B2, d2, rfl, hc2, hp2, hb⟩
    simp only at hc2 hp2 ⊢
    replace HL := Lib.hid (HL.out.step hb); replace HG := Lib.hid (HG.out.step hb)
    have hkw := HL.out.size
    replace HL := Lib.hid (HL.out.step (stepA w2 (.cells #[.int .i64 h1.n, .slice B2 h1.as.length d2] 24))); replace HG := Lib.hid (HG.out.step (stepA w2 (.cells #[.int .i64 h1.n, .slice B2 h1.as.length d2] 24)))
    have HK := Lib.hid (GBox.new hc2 hp2)
    have hk1 : w1.heap.size ≠ w2.heap.size := fun e => by have := HG.out.blk.lt; have := hb.size; simp at this; omega
    clear hb hp2 c0 c1 HC1
    have c0 := HK.out.c0
    have c1 := HK.out.c1
    go_wp2_with fail
    refine (HC2.out B2 d2 _ HK.out.cap HK.out.prs).mono ?_
    rintro e w3 ⟨B3, d3, rfl, hc3, hp3, hb⟩
    simp only at hc3 hp3 ⊢
    replace HL := Lib.hid (HL.out.step hb); replace HG := Lib.hid (HG.out.step hb); replace HK := Lib.hid (HK.out.step hb)
    clear hb c0 c1 HC2
    have e0 := HK.out.c0
    have e1 := HK.out.c1
    have f0 := HK.out.blk.frozen 0
    have f1 := HK.out.blk.frozen 1
    have HGq := Lib.hid (HG.out.beside HK.out hk1 h2.n (.slice B3 h2.as.length d3))
    have HKq := Lib.hid (HK.out.put hc3 hp3)
    have HLq : Hid (Low w ((w3.setCell ⟨w2.heap.size, 0, none⟩ (.int .i64 h2.n)).setCell ⟨w2.heap.size, 1, none⟩ (.slice B3 h2.as.length d3))) := ⟨(HL.out.b.setCell (p := ⟨w2.heap.size, 0, none⟩) hkw _).setCell (p := ⟨w2.heap.size, 1, none⟩) hkw _⟩
    have c0 := HG.out.c0
    have c1 := HG.out.c1
    have hk1' : ¬ w2.heap.size = w1.heap.size := fun e => hk1 e.symm
    clear hp3 HG HK HL
    go_wp2_with fail
    clear e0 e1 f0 f1 c0 c1
    have c0 := HGq.out.c0
    have c1 := HGq.out.c1
    generalize ((w3.setCell ⟨w2.heap.size, 0, none⟩ (.int .i64 h2.n)).setCell ⟨w2.heap.size, 1, none⟩ (.slice B3 h2.as.length d3)) = wq at HGq HKq HLq c0 c1 ⊢
    have HG := HGq
    have HL := HLq
    clear HGq HLq
    refine (HC3.out B d _ HG.out.cap HG.out.prs).mono ?_
    rintro e w4 ⟨B4, d4, rfl, hc4, hp4, hb⟩
    simp only at hc4 hp4 ⊢
    replace HL := Lib.hid (HL.out.step hb); replace HG := Lib.hid (HG.out.step hb); replace HKq := Lib.hid (HKq.out.step hb)
    have hjw := HL.out.size
    have hj1 : w1.heap.size ≠ w4.heap.size := fun e => by have := HG.out.blk.lt; omega
    have hj2 : w2.heap.size ≠ w4.heap.size := fun e => by have := HKq.out.blk.lt; omega
    replace HL := Lib.hid (HL.out.step (stepA w4 (.cells #[.int .i64 j1.n, .slice B4 j1.as.length d4] 24))); replace HG := Lib.hid (HG.out.step (stepA w4 (.cells #[.int .i64 j1.n, .slice B4 j1.as.length d4] 24))); replace HKq := Lib.hid (HKq.out.step (stepA w4 (.cells #[.int .i64 j1.n, .slice B4 j1.as.length d4] 24)))
    have HJ := Lib.hid (GBox.new hc4 hp4)
    clear hb hp4 c0 c1 HC3
    have c0 := HJ.out.c0
    have c1 := HJ.out.c1
    go_wp2_with fail
    refine (HC4.out B4 d4 _ HJ.out.cap HJ.out.prs).mono ?_
    rintro e w5 ⟨B5, d5, rfl, hc5, hp5, hb⟩
    simp only at hc5 hp5 ⊢
    replace HL := Lib.hid (HL.out.step hb); replace HG := Lib.hid (HG.out.step hb); replace HKq := Lib.hid (HKq.out.step hb); replace HJ := Lib.hid (HJ.out.step hb)
    clear hb c0 c1 HC4
    have e0 := HJ.out.c0
    have e1 := HJ.out.c1
    have f0 := HJ.out.blk.frozen 0
    have f1 := HJ.out.blk.frozen 1
    have HGq := Lib.hid (HG.out.beside HJ.out hj1 j2.n (.slice B5 j2.as.length d5))
    have HKr := Lib.hid (HKq.out.beside HJ.out hj2 j2.n (.slice B5 j2.as.length d5))
    have HJq := Lib.hid (HJ.out.put hc5 hp5)
    have HLq : Hid (Low w ((w5.setCell ⟨w4.heap.size, 0, none⟩ (.int .i64 j2.n)).setCell ⟨w4.heap.size, 1, none⟩ (.slice B5 j2.as.length d5))) := ⟨(HL.out.b.setCell (p := ⟨w4.heap.size, 0, none⟩) hjw _).setCell (p := ⟨w4.heap.size, 1, none⟩) hjw _⟩
    have c0 := HG.out.c0
    have c1 := HG.out.c1
    have hj1' : ¬ w4.heap.size = w1.heap.size := fun e => hj1 e.symm
    clear hp5 HG HKq HJ HL
    have HBT : Hid (∀ W : World, Calls Try.prog 36 #[.int .i64 q, .int .i64 s.1.n] W (RetB W (bitsG q N))) := fun W => by rw [HN.out]; exact bits_any q N W (by omega) (by omega) (by omega)
    have HXv : Hid ((bitsG q N).length = N) := bitsG_length _ _
    generalize bitsG q N = v at HBT HXv
    go_wp2_with fail
    clear e0 e1 f0 f1 c0 c1
    have c0 := HGq.out.c0
    have c1 := HGq.out.c1
    generalize ((w5.setCell ⟨w4.heap.size, 0, none⟩ (.int .i64 j2.n)).setCell ⟨w4.heap.size, 1, none⟩ (.slice B5 j2.as.length d5)) = wq2 at HGq HKr HJq HLq c0 c1 ⊢
    have HG := HGq
    have HK := HKr
    have HJ := HJq
    have HL := HLq
    clear HGq HLq HKr HJq
    refine (HBT.out _).mono ?_
    rintro e w6 ⟨A6, c6, rfl, hc6, hv, hb⟩
    replace HL := Lib.hid (HL.out.step hb); replace HG := Lib.hid (HG.out.step hb); replace HK := Lib.hid (HK.out.step hb); replace HJ := Lib.hid (HJ.out.step hb)
    have HV : Hid (ValsF w6 A6 (bools v)) := ⟨hv⟩
    rw [HXv.out] at hc6 ⊢
    clear hb hv HBT c0 c1
    have hvn : (v.length : Int) = s.1.n := by rw [HXv.out, HN.out]
    have HSE := Lib.hid (fixed_same HX1.out.1 HY1.out.1 HXY.out HF1.out HF2.out HF3.out HF4.out hvn)
    have hsl := fixed_twice HI.out.right HX1.out HY1.out HXY.out HF1.out HF2.out
    have HE1 := Lib.hid (HEH.out v HXv.out)
    have HE2 := Lib.hid (HEJ.out v HXv.out)
    rw [← HSE.out, HXv.out] at HE2
    rw [HXv.out] at HE1
    generalize suppG h2 a2 = S at hsl HSU
    have hwn : IntKind.i64.wrap (s.1.n - 2) = s.1.n - 2 := IntWalk.i64_in _ (by omega)
    clear hvn
    go_wp2_with fail
    replace HL := Lib.hid (HL.out.step (stepD1 _)); replace HG := Lib.hid (HG.out.step (stepD1 _)); replace HK := Lib.hid (HK.out.step (stepD1 _)); replace HJ := Lib.hid (HJ.out.step (stepD1 _)); replace HV := Lib.hid (HV.out.step (stepD1 _))
    refine wp_region_noPanic ?_
    refine wp_region_seq (fun W => W.cell? ⟨w2.heap.size, 0, none⟩ = some (.int .i64 h2.n) ∧ W.cell? ⟨w2.heap.size, 1, none⟩ = some (.slice B3 h2.as.length d3) ∧ W.cell? ⟨w4.heap.size, 0, none⟩ = some (.int .i64 j2.n) ∧ W.cell? ⟨w4.heap.size, 1, none⟩ = some (.slice B5 j2.as.length d5) ∧ W.cell? ⟨w1.heap.size, 0, none⟩ = some (.int .i64 s.1.n)) [0, 1, 2, 3, 4, 5, 6, 7, 8, 10, 11, 12, 9, 13, 14, 15, 16, 17, 18, 21, 22, 23, 19, 20, 24, 25, 26] [0, 1, 2, 3, 4, 5, 6, 7, 8, 10, 11, 12, 14, 15, 16, 17, 18, 20, 21, 22, 23, 24, 25, 26] [] (by kernel_rfl) (by kernel_rfl) rfl (by kernel_rfl) (by kernel_rfl) (fun _ _ _ _ _ h => h) ?_ (fun hSS => ?_)
    · exact ⟨HK.out.c0, HK.out.c1, HJ.out.c0, HJ.out.c1, HG.out.c0⟩
    clear hSS
    (refine wpSeq_mov rfl rfl ?_; intro o ho; simp only [List.getElem?_toArray, List.getElem?_cons_zero, List.getElem?_cons_succ, Option.some.injEq] at ho; subst ho; refine ⟨?_, Or.inl ⟨by rfl, fun W hSW => ?_⟩, ?_⟩; rotate_left; (focus (go_simp; first | done | with_reducible rfl)); try simp only [Act.put, List.setIfInBounds_toArray, List.set_cons_zero, List.set_cons_succ])
    (refine wpSeq_mov rfl rfl ?_; intro o ho; simp only [List.getElem?_toArray, List.getElem?_cons_zero, List.getElem?_cons_succ, Option.some.injEq] at ho; subst ho; refine ⟨?_, Or.inl ⟨by rfl, fun W hSW => ?_⟩, ?_⟩; rotate_left; (focus (go_simp; first | done | with_reducible rfl)); try simp only [Act.put, List.setIfInBounds_toArray, List.set_cons_zero, List.set_cons_succ])
    (refine wpSeq_mov rfl rfl ?_; intro o ho; simp only [List.getElem?_toArray, List.getElem?_cons_zero, List.getElem?_cons_succ, Option.some.injEq] at ho; subst ho; refine ⟨?_, Or.inl ⟨by rfl, fun W hSW => ?_⟩, ?_⟩; rotate_left; (focus (go_simp; first | done | with_reducible rfl)); try simp only [Act.put, List.setIfInBounds_toArray, List.set_cons_zero, List.set_cons_succ])
    (refine wpSeq_mov rfl rfl ?_; intro o ho; simp only [List.getElem?_toArray, List.getElem?_cons_zero, List.getElem?_cons_succ, Option.some.injEq] at ho; subst ho; refine ⟨?_, Or.inl ⟨by rfl, fun W hSW => ?_⟩, ?_⟩; rotate_left; (focus (go_simp; first | done | with_reducible rfl)); try simp only [Act.put, List.setIfInBounds_toArray, List.set_cons_zero, List.set_cons_succ])
    (refine wpSeq_mov rfl rfl ?_; intro o ho; simp only [List.getElem?_toArray, List.getElem?_cons_zero, List.getElem?_cons_succ, Option.some.injEq] at ho; subst ho; refine ⟨?_, Or.inl ⟨by rfl, fun W hSW => ?_⟩, ?_⟩; rotate_left; (focus (go_simp; first | done | with_reducible rfl)); try simp only [Act.put, List.setIfInBounds_toArray, List.set_cons_zero, List.set_cons_succ])
    (refine wpSeq_mov rfl rfl ?_; intro o ho; simp only [List.getElem?_toArray, List.getElem?_cons_zero, List.getElem?_cons_succ, Option.some.injEq] at ho; subst ho; refine ⟨?_, Or.inl ⟨by rfl, fun W hSW => ?_⟩, ?_⟩; rotate_left; (focus (go_simp; first | done | with_reducible rfl)); try simp only [Act.put, List.setIfInBounds_toArray, List.set_cons_zero, List.set_cons_succ])
    (refine wpSeq_mov rfl rfl ?_; intro o ho; simp only [List.getElem?_toArray, List.getElem?_cons_zero, List.getElem?_cons_succ, Option.some.injEq] at ho; subst ho; refine ⟨?_, Or.inl ⟨by rfl, fun W hSW => ?_⟩, ?_⟩; rotate_left; (focus (go_simp; first | done | with_reducible rfl)); try simp only [Act.put, List.setIfInBounds_toArray, List.set_cons_zero, List.set_cons_succ])
    (refine wpSeq_mov rfl rfl ?_; intro o ho; simp only [List.getElem?_toArray, List.getElem?_cons_zero, List.getElem?_cons_succ, Option.some.injEq] at ho; subst ho; refine ⟨?_, Or.inl ⟨by rfl, fun W hSW => ?_⟩, ?_⟩; rotate_left; (focus (go_simp; first | done | with_reducible rfl)); try simp only [Act.put, List.setIfInBounds_toArray, List.set_cons_zero, List.set_cons_succ])
    (refine wpSeq_mov rfl rfl ?_; intro o ho; simp only [List.getElem?_toArray, List.getElem?_cons_zero, List.getElem?_cons_succ, Option.some.injEq] at ho; subst ho; refine ⟨?_, Or.inl ⟨by rfl, fun W hSW => ?_⟩, ?_⟩; rotate_left; (focus (go_simp; first | done | with_reducible rfl)); try simp only [Act.put, List.setIfInBounds_toArray, List.set_cons_zero, List.set_cons_succ])
    (refine wpSeq_mov rfl rfl ?_; intro o ho; simp only [List.getElem?_toArray, List.getElem?_cons_zero, List.getElem?_cons_succ, Option.some.injEq] at ho; subst ho; refine ⟨?_, Or.inl ⟨by rfl, fun W hSW => ?_⟩, ?_⟩; rotate_left; (focus (go_simp; first | done | with_reducible rfl)); try simp only [Act.put, List.setIfInBounds_toArray, List.set_cons_zero, List.set_cons_succ])
    (refine wpSeq_mov rfl rfl ?_; intro o ho; simp only [List.getElem?_toArray, List.getElem?_cons_zero, List.getElem?_cons_succ, Option.some.injEq] at ho; subst ho; refine ⟨?_, Or.inl ⟨by rfl, fun W hSW => ?_⟩, ?_⟩; rotate_left; (focus (go_simp; first | done | with_reducible rfl)); try simp only [Act.put, List.setIfInBounds_toArray, List.set_cons_zero, List.set_cons_succ])
    (refine wpSeq_mov rfl rfl ?_; intro o ho; simp only [List.getElem?_toArray, List.getElem?_cons_zero, List.getElem?_cons_succ, Option.some.injEq] at ho; subst ho; refine ⟨?_, Or.inl ⟨by rfl, fun W hSW => ?_⟩, ?_⟩; rotate_left; (focus (go_simp; first | done | with_reducible rfl)); try simp only [Act.put, List.setIfInBounds_toArray, List.set_cons_zero, List.set_cons_succ])
    (refine wpSeq_fix rfl rfl ?_; intro o ho; simp only [List.getElem?_toArray, List.getElem?_cons_zero, List.getElem?_cons_succ, Option.some.injEq] at ho; subst ho; intro K hK)
    go_simp
    refine (HE1.out B3 A6 d3 c6 _ HK.out.cap HK.out.prs hc6 HV.out.p).mono ?_
    rintro e w7 ⟨rfl, hb⟩
    replace HL := Lib.hid (HL.out.step hb); replace HG := Lib.hid (HG.out.step hb); replace HK := Lib.hid (HK.out.step hb); replace HJ := Lib.hid (HJ.out.step hb); replace HV := Lib.hid (HV.out.step hb)
    clear hb
    (refine hK.out _ _ (fun _ => ⟨HK.out.c0, HK.out.c1, HJ.out.c0, HJ.out.c1, HG.out.c0⟩) ?_; clear hK K; try simp only [Act.put, List.setIfInBounds_toArray, List.set_cons_zero, List.set_cons_succ])
    (refine wpSeq_fix rfl rfl ?_; intro o ho; simp only [List.getElem?_toArray, List.getElem?_cons_zero, List.getElem?_cons_succ, Option.some.injEq] at ho; subst ho; intro K hK)
    go_simp
    refine (HE2.out B5 A6 d5 c6 _ HJ.out.cap HJ.out.prs hc6 HV.out.p).mono ?_
    rintro e w8 ⟨rfl, hb⟩
    replace HL := Lib.hid (HL.out.step hb); replace HG := Lib.hid (HG.out.step hb); replace HK := Lib.hid (HK.out.step hb); replace HJ := Lib.hid (HJ.out.step hb)
    clear hb
    (refine hK.out _ _ (fun _ => ⟨HK.out.c0, HK.out.c1, HJ.out.c0, HJ.out.c1, HG.out.c0⟩) ?_; clear hK K; try simp only [Act.put, List.setIfInBounds_toArray, List.set_cons_zero, List.set_cons_succ])
    (refine wpSeq_mov rfl rfl ?_; intro o ho; simp only [List.getElem?_toArray, List.getElem?_cons_zero, List.getElem?_cons_succ, Option.some.injEq] at ho; subst ho; refine ⟨?_, Or.inl ⟨by rfl, fun W hSW => ?_⟩, ?_⟩; rotate_left; (focus (go_simp; first | done | with_reducible rfl)); try simp only [Act.put, List.setIfInBounds_toArray, List.set_cons_zero, List.set_cons_succ])
    (refine wpSeq_mov rfl rfl ?_; intro o ho; simp only [List.getElem?_toArray, List.getElem?_cons_zero, List.getElem?_cons_succ, Option.some.injEq] at ho; subst ho; refine ⟨?_, Or.inl ⟨by rfl, fun W hSW => ?_⟩, ?_⟩; rotate_left; (focus (go_simp; first | done | with_reducible rfl)); try simp only [Act.put, List.setIfInBounds_toArray, List.set_cons_zero, List.set_cons_succ])
    (refine wpSeq_mov rfl rfl ?_; intro o ho; simp only [List.getElem?_toArray, List.getElem?_cons_zero, List.getElem?_cons_succ, Option.some.injEq] at ho; subst ho; refine ⟨?_, Or.inl ⟨by rfl, fun W hSW => ?_⟩, ?_⟩; rotate_left; (focus (go_simp; first | done | with_reducible rfl)); try simp only [Act.put, List.setIfInBounds_toArray, List.set_cons_zero, List.set_cons_succ])
    (refine wpSeq_mov rfl rfl ?_; intro o ho; simp only [List.getElem?_toArray, List.getElem?_cons_zero, List.getElem?_cons_succ, Option.some.injEq] at ho; subst ho; refine ⟨?_, Or.inl ⟨by rfl, fun W hSW => ?_⟩, ?_⟩; rotate_left; (focus (go_simp; first | done | with_reducible rfl)); try simp only [Act.put, List.setIfInBounds_toArray, List.set_cons_zero, List.set_cons_succ])
    (refine wpSeq_mov rfl rfl ?_; intro o ho; simp only [List.getElem?_toArray, List.getElem?_cons_zero, List.getElem?_cons_succ, Option.some.injEq] at ho; subst ho; refine ⟨?_, Or.inl ⟨by rfl, fun W hSW => ?_⟩, ?_⟩; rotate_left; (focus (go_simp; first | done | with_reducible rfl)); try simp only [Act.put, List.setIfInBounds_toArray, List.set_cons_zero, List.set_cons_succ])
    (refine wpSeq_mov rfl rfl ?_; intro o ho; simp only [List.getElem?_toArray, List.getElem?_cons_zero, List.getElem?_cons_succ, Option.some.injEq] at ho; subst ho; refine ⟨?_, Or.inl ⟨by rfl, fun W hSW => ?_⟩, ?_⟩; rotate_left; (focus (go_simp; first | done | with_reducible rfl)); try simp only [Act.put, List.setIfInBounds_toArray, List.set_cons_zero, List.set_cons_succ])
    (refine wpSeq_mov rfl rfl ?_; intro o ho; simp only [List.getElem?_toArray, List.getElem?_cons_zero, List.getElem?_cons_succ, Option.some.injEq] at ho; subst ho; refine ⟨?_, Or.inl ⟨by rfl, fun W hSW => ?_⟩, ?_⟩; rotate_left; (focus (go_simp; first | done | with_reducible rfl)); try simp only [Act.put, List.setIfInBounds_toArray, List.set_cons_zero, List.set_cons_succ])
    (refine wpSeq_mov rfl rfl ?_; intro o ho; simp only [List.getElem?_toArray, List.getElem?_cons_zero, List.getElem?_cons_succ, Option.some.injEq] at ho; subst ho; refine ⟨?_, Or.inl ⟨by rfl, fun W hSW => ?_⟩, ?_⟩; rotate_left; (focus (go_simp; first | done | with_reducible rfl)); try simp only [Act.put, List.setIfInBounds_toArray, List.set_cons_zero, List.set_cons_succ])
    (refine wpSeq_fix rfl rfl ?_; intro o ho; simp only [List.getElem?_toArray, List.getElem?_cons_zero, List.getElem?_cons_succ, Option.some.injEq] at ho; subst ho; intro K hK)
    go_simp
    refine (HSU.out B3 d3 _ HK.out.prs).mono ?_
    rintro e w9 ⟨A9, c9, rfl, hc9, hv9, hb⟩
    replace HL := Lib.hid (HL.out.step hb); replace HG := Lib.hid (HG.out.step hb); replace HK := Lib.hid (HK.out.step hb); replace HJ := Lib.hid (HJ.out.step hb)
    clear hb hv9
    (refine hK.out _ _ (fun _ => ⟨HK.out.c0, HK.out.c1, HJ.out.c0, HJ.out.c1, HG.out.c0⟩) ?_; clear hK K; try simp only [Act.put, List.setIfInBounds_toArray, List.set_cons_zero, List.set_cons_succ])
    (refine wpSeq_mov rfl rfl ?_; intro o ho; simp only [List.getElem?_toArray, List.getElem?_cons_zero, List.getElem?_cons_succ, Option.some.injEq] at ho; subst ho; refine ⟨?_, Or.inl ⟨by rfl, fun W hSW => ?_⟩, ?_⟩; rotate_left; (focus (go_simp; first | done | with_reducible rfl)); try simp only [Act.put, List.setIfInBounds_toArray, List.set_cons_zero, List.set_cons_succ])
    (refine wpSeq_mov rfl rfl ?_; intro o ho; simp only [List.getElem?_toArray, List.getElem?_cons_zero, List.getElem?_cons_succ, Option.some.injEq] at ho; subst ho; refine ⟨?_, Or.inl ⟨by rfl, fun W hSW => ?_⟩, ?_⟩; rotate_left; (focus (go_simp; first | done | with_reducible rfl)); try simp only [Act.put, List.setIfInBounds_toArray, List.set_cons_zero, List.set_cons_succ])
    try rw [decide_eq_true hsl]
    (refine wpSeq_mov rfl rfl ?_; intro o ho; simp only [List.getElem?_toArray, List.getElem?_cons_zero, List.getElem?_cons_succ, Option.some.injEq] at ho; subst ho; refine ⟨?_, Or.inl ⟨by rfl, fun W hSW => ?_⟩, ?_⟩; rotate_left; (focus (go_simp; first | done | with_reducible rfl)); try simp only [Act.put, List.setIfInBounds_toArray, List.set_cons_zero, List.set_cons_succ])
    (refine wpSeq_mov rfl rfl ?_; intro o ho; simp only [List.getElem?_toArray, List.getElem?_cons_zero, List.getElem?_cons_succ, Option.some.injEq] at ho; subst ho; refine ⟨?_, Or.inl ⟨by rfl, fun W hSW => ?_⟩, ?_⟩; rotate_left; (focus (go_simp; first | done | with_reducible rfl)); try simp only [Act.put, List.setIfInBounds_toArray, List.set_cons_zero, List.set_cons_succ])
    refine wpSeq_done ?_
    go_wp2_with fail
    go_ret
    exact ⟨rfl, HL.out.b⟩
end Go.Proofs.Ytbdhkagcbncefaa
