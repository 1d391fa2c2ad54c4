/- GraphSpoilt's walk. -/
import Derived.Test.YtbdhkagcbncefaaSpoil
import Derived.Test.YtbdhkagcbncefaaG2
namespace Go.Proofs.Ytbdhkagcbncefaa
open Go.RowKit Go.Maps

/-- The last region, of a graph that is spoilt. -/
theorem lsame_at (n : Int) (zs : List Pr) (L : Nat) (hL : zs.length = L) (a b k : Int) (A : Option Addr) (c : Nat) (w : World) (hg : GOk ⟨n, zs⟩) (ha : a ≤ 9223372036854775807) (hb : b ≤ 9223372036854775807) (hk : k ≤ 9223372036854775807) (hc : L ≤ c) (hp : Prs w w.heap.size A zs) :
    Calls Try.prog 39 #[.agg #[.int .i64 n, .slice A L c], .int .i64 a, .int .i64 b, .int .i64 k] w (Ret w (.bool true)) := by
  subst hL
  exact lsame_any ⟨n, zs⟩ a b k A c w hg ha hb hk hc hp

/-- The graph with a gate laid over. -/
theorem ok_set {n : Int} {zs : List Pr} {p : Pr} (h : GOk ⟨n, zs⟩) (hp : PrOk p) (k : Nat) : GOk ⟨n, zs.set k p⟩ := by
  refine ⟨h.1, by simpa using h.2.1, fun q hq => ?_⟩
  rcases List.mem_or_eq_of_mem_set hq with h' | rfl
  · exact h.2.2 q h'
  · exact hp
theorem ok_more {n : Int} {zs : List Pr} {p : Pr} (h : GOk ⟨n, zs⟩) (hp : PrOk p) (hl : zs.length ≤ 40) : GOk ⟨n, zs ++ [p]⟩ := by
  refine ⟨h.1, by simp; omega, fun q hq => ?_⟩
  rcases List.mem_append.1 hq with h' | h'
  · exact h.2.2 q h'
  · rw [List.mem_singleton.1 h']
    exact hp

set_option maxHeartbeats 1000000 in
theorem graphSpoilt_any (n : Int) (xs : List Int) (A : Option Addr) (cp : Nat) (a x y : Int) (w : World) (hn : 0 ≤ n ∧ n ≤ 255) (hx : U16 xs) (hcp : xs.length ≤ cp) (hcl : cp ≤ 70368744177664) (hp : Vals w w.heap.size A (u16s xs))
    (ha : 0 ≤ a ∧ a ≤ 255) (hxx : -9223372036854775808 ≤ x ∧ x ≤ 9223372036854775807) (hyy : -9223372036854775808 ≤ y ∧ y ≤ 9223372036854775807) :
    Calls Try.prog 10 #[.int .u8 n, .slice A xs.length cp, .int .u8 a, .int .i64 x, .int .i64 y] w (Ret w (.bool true)) := by
  have HM := Lib.hid (made_any (n % 7) xs A cp w (by omega) (by omega) hx (by omega) hp)
  have HI := Lib.hid (madeG_inv (n := n % 7) (by omega) (by omega) xs)
  generalize madeG (n % 7) xs = s at HM HI
  obtain ⟨⟨sn, zs⟩, sl⟩ := s
  have l1 : zs.length ≤ 40 := HI.out.len
  have HOK : Hid (GOk ⟨sn, zs⟩) := HI.out.ok
  have HPO : Hid (PrOk (x, y)) := ⟨(wf_iff x).2 hxx, (wf_iff y).2 hyy⟩
  clear hp hx HI
  go_enter Try.func10, Try.ntmps10
  go_wp2_with fail
  refine HM.out.mono ?_
  rintro e w1 ⟨B, d, rfl, hc1, hp1, hb1⟩
  have HC1 : Hid (zs.length ≤ d) := hc1
  have HP1 : Hid (Prs w1 w1.heap.size B zs) := hp1
  have HW : Hid (Below w.heap.size w w1) := hb1
  have HL := Lib.hid ((Low.refl w1).step (step2 (stepA w1 (.cells #[.int .i64 sn, .slice B zs.length d] 24)) (stepA _ (.cells #[.int .i64 sn, .slice none 0 0] 24))))
  have HX : Hid (BlkF ((w1.alloc (.cells #[.int .i64 sn, .slice B zs.length d] 24)).alloc (.cells #[.int .i64 sn, .slice none 0 0] 24)) w1.heap.size 24 #[.int .i64 sn, .slice B zs.length d]) := ⟨(Blk.new w1 _ _).alloc _⟩
  have HY : Hid (BlkF ((w1.alloc (.cells #[.int .i64 sn, .slice B zs.length d] 24)).alloc (.cells #[.int .i64 sn, .slice none 0 0] 24)) (w1.heap.size + 1) 24 #[.int .i64 sn, .slice none 0 0]) := by
    have := Blk.new (w1.alloc (.cells #[.int .i64 sn, .slice B zs.length d] 24)) 24 #[.int .i64 sn, .slice none 0 0]
    rw [World.size_alloc] at this
    exact ⟨this⟩
  clear hb1 hp1 hc1 HM
  have hsz := HL.out.size
  simp only [World.size_alloc] at hsz
  go_wp2_with (at_builtin; go_loud (refine wpList_append_prs rfl (.tmp 27) (.tmp 29) rfl (w1.heap.size) [] (.slice none 0 0) rfl (own_nil _ _ _ _) w1.heap.size B d zs rfl (HP1.out.below HL.out.b) (by simp; omega) (by simp; omega) zs rfl ?_); go_loud (intro Y c2 w2 HO hc2 HG2); go_loud (have HL2 := Lib.hid (HL.out.grown HG2.out (fun k hk => by simp [Value.ownBlock] at hk))); go_loud (have HX2 : Hid (BlkF _ _ _ _) := ⟨HX.out.p.by_ HG2.out (fun k hk => by simp [Value.ownBlock] at hk)⟩); go_loud (have HY2 : Hid (BlkF _ _ _ _) := ⟨HY.out.p.by_ HG2.out (fun k hk => by simp [Value.ownBlock] at hk)⟩); go_loud (have y0 := HY2.out.cell 0); go_loud (have y1 := HY2.out.cell 1); go_loud (have yf0 := HY2.out.p.frozen 0); go_loud (have yf1 := HY2.out.p.frozen 1); go_loud (clear HL HX HY HG2))
  · have HL3 := Lib.hid ((HL2.out.b).setCell (p := ⟨w1.heap.size + 1, 1, none⟩) (by simp) (.slice Y zs.length c2))
    have HX3 : Hid (BlkF _ _ _ _) := ⟨HX2.out.p.far (p := ⟨w1.heap.size + 1, 1, none⟩) (by simp) (.slice Y zs.length c2)⟩
    have HY3 : Hid (BlkF _ _ _ _) := ⟨HY2.out.p.set_ 1 (.slice Y zs.length c2)⟩
    have HO3 : Hid (OwnF _ _ _ _ _ _ _) := ⟨own_set HO.out.p HY2.out.p (by decide) 1 (.slice Y zs.length c2)⟩
    have hpos : 0 < zs.length := by assumption
    have m0 := Int.emod_nonneg a (by omega : (zs.length : Int) ≠ 0)
    have m1 := Int.emod_lt_of_pos a (by omega : 0 < (zs.length : Int))
    obtain ⟨kk, hK⟩ : ∃ kk : Nat, a % (zs.length : Int) = kk := ⟨(a % (zs.length : Int)).toNat, by omega⟩
    have hKl : kk < zs.length := by omega
    have htm : Int.tmod a (zs.length : Int) = (kk : Int) := by rw [Int.tmod_eq_emod_of_nonneg (by omega), hK]
    have hwK : IntKind.i64.wrap (kk : Int) = kk := IntWalk.i64_in _ (by omega)
    have hwa : IntKind.i64.wrap a = a := IntWalk.i64_in _ (by omega)
    have hnz : ¬ ((zs.length : Int) = 0) := by omega
    have hne : ¬ zs = [] := by rintro rfl; simp at hpos
    clear hK m0 m1 y0 y1 yf0 yf1
    obtain ⟨g, rfl, hg, hf, ⟨u0, hu0⟩, ⟨u1, hu1⟩, hown⟩ := own_put2 HO3.out.p hKl
    have HOn := Lib.hid hown
    clear hown
    generalize w2.setCell ⟨w1.heap.size + 1, 1, none⟩ (.slice (some ⟨g, 0, none⟩) zs.length c2) = w3 at HL3 HX3 HY3 HO3 HOn hf hu0 hu1 ⊢
    refine wp_region_noPanic ?_
    refine wp_region_seq (fun W => W.cell? ⟨w1.heap.size + 1, 1, none⟩ = some (.slice (some ⟨g, 0, none⟩) zs.length c2)) [0, 1, 2, 3, 4, 5, 6, 7, 8, 9, 10, 11, 12] [0, 1, 2, 3, 4, 5, 6, 7, 8, 9, 10, 11] [12] (by kernel_rfl) (by kernel_rfl) rfl (by kernel_rfl) (by kernel_rfl) (fun _ _ _ _ _ h => h) ?_ (fun hSS => ?_)
    · exact HY3.out.p.cell 1
    (refine wpSeq_mov rfl rfl ?_; intro o ho; simp only [List.getElem?_toArray, List.getElem?_cons_zero, List.getElem?_cons_succ, Option.some.injEq] at ho; subst ho; refine ⟨?_, Or.inl ⟨by rfl, fun W hSW => ?_⟩, ?_⟩; rotate_left; (focus (go_simp; first | done | with_reducible rfl)); try simp only [Act.put, List.setIfInBounds_toArray, List.set_cons_zero, List.set_cons_succ])
    (refine wpSeq_mov rfl rfl ?_; intro o ho; simp only [List.getElem?_toArray, List.getElem?_cons_zero, List.getElem?_cons_succ, Option.some.injEq] at ho; subst ho; refine ⟨?_, Or.inl ⟨by rfl, fun W hSW => ?_⟩, ?_⟩; rotate_left; (focus (go_simp; first | done | with_reducible rfl)); try simp only [Act.put, List.setIfInBounds_toArray, List.set_cons_zero, List.set_cons_succ])
    (refine wpSeq_mov rfl rfl ?_; intro o ho; simp only [List.getElem?_toArray, List.getElem?_cons_zero, List.getElem?_cons_succ, Option.some.injEq] at ho; subst ho; refine ⟨?_, Or.inl ⟨by rfl, fun W hSW => ?_⟩, ?_⟩; rotate_left; (focus (go_simp; first | done | with_reducible rfl)); try simp only [Act.put, List.setIfInBounds_toArray, List.set_cons_zero, List.set_cons_succ])
    (refine wpSeq_mov rfl rfl ?_; intro o ho; simp only [List.getElem?_toArray, List.getElem?_cons_zero, List.getElem?_cons_succ, Option.some.injEq] at ho; subst ho; refine ⟨?_, Or.inl ⟨by rfl, fun W hSW => ?_⟩, ?_⟩; rotate_left; (focus (go_simp; first | done | with_reducible rfl)); try simp only [Act.put, List.setIfInBounds_toArray, List.set_cons_zero, List.set_cons_succ])
    (refine wpSeq_mov rfl rfl ?_; intro o ho; simp only [List.getElem?_toArray, List.getElem?_cons_zero, List.getElem?_cons_succ, Option.some.injEq] at ho; subst ho; refine ⟨?_, Or.inl ⟨by rfl, fun W hSW => ?_⟩, ?_⟩; rotate_left; (focus (go_simp; first | done | with_reducible rfl)); try simp only [Act.put, List.setIfInBounds_toArray, List.set_cons_zero, List.set_cons_succ])
    (refine wpSeq_mov rfl rfl ?_; intro o ho; simp only [List.getElem?_toArray, List.getElem?_cons_zero, List.getElem?_cons_succ, Option.some.injEq] at ho; subst ho; refine ⟨?_, Or.inl ⟨by rfl, fun W hSW => ?_⟩, ?_⟩; rotate_left; (focus (go_simp; first | done | with_reducible rfl)); try simp only [Act.put, List.setIfInBounds_toArray, List.set_cons_zero, List.set_cons_succ])
    (refine wpSeq_mov rfl rfl ?_; intro o ho; simp only [List.getElem?_toArray, List.getElem?_cons_zero, List.getElem?_cons_succ, Option.some.injEq] at ho; subst ho; refine ⟨?_, Or.inl ⟨by rfl, fun W hSW => ?_⟩, ?_⟩; rotate_left; (focus (go_simp; first | done | with_reducible rfl)); try simp only [Act.put, List.setIfInBounds_toArray, List.set_cons_zero, List.set_cons_succ])
    (refine wpSeq_mov rfl rfl ?_; intro o ho; simp only [List.getElem?_toArray, List.getElem?_cons_zero, List.getElem?_cons_succ, Option.some.injEq] at ho; subst ho; refine ⟨?_, Or.inl ⟨by rfl, fun W hSW => ?_⟩, ?_⟩; rotate_left; (focus (go_simp; first | done | with_reducible rfl)); try simp only [Act.put, List.setIfInBounds_toArray, List.set_cons_zero, List.set_cons_succ])
    (refine wpSeq_mov rfl rfl ?_; intro o ho; simp only [List.getElem?_toArray, List.getElem?_cons_zero, List.getElem?_cons_succ, Option.some.injEq] at ho; subst ho; refine ⟨?_, Or.inl ⟨by rfl, fun W hSW => ?_⟩, ?_⟩; rotate_left; (focus (go_simp; first | done | with_reducible rfl)); try simp only [Act.put, List.setIfInBounds_toArray, List.set_cons_zero, List.set_cons_succ])
    (refine wpSeq_mov rfl rfl ?_; intro o ho; simp only [List.getElem?_toArray, List.getElem?_cons_zero, List.getElem?_cons_succ, Option.some.injEq] at ho; subst ho; refine ⟨?_, Or.inl ⟨by rfl, fun W hSW => ?_⟩, ?_⟩; rotate_left; (focus (go_simp; first | done | with_reducible rfl)); try simp only [Act.put, List.setIfInBounds_toArray, List.set_cons_zero, List.set_cons_succ])
    (refine wpSeq_mov rfl rfl ?_; intro o ho; simp only [List.getElem?_toArray, List.getElem?_cons_zero, List.getElem?_cons_succ, Option.some.injEq] at ho; subst ho; refine ⟨?_, Or.inl ⟨by rfl, fun W hSW => ?_⟩, ?_⟩; rotate_left; (focus (go_simp; first | done | with_reducible rfl)); try simp only [Act.put, List.setIfInBounds_toArray, List.set_cons_zero, List.set_cons_succ])
    (refine wpSeq_mov rfl rfl ?_; intro o ho; simp only [List.getElem?_toArray, List.getElem?_cons_zero, List.getElem?_cons_succ, Option.some.injEq] at ho; subst ho; refine ⟨?_, Or.inl ⟨by rfl, fun W hSW => ?_⟩, ?_⟩; rotate_left; (focus (go_simp; first | done | with_reducible rfl)); try simp only [Act.put, List.setIfInBounds_toArray, List.set_cons_zero, List.set_cons_succ])
    clear hSS
    (refine wpSeq_fix rfl rfl ?_; intro o ho; simp only [List.getElem?_toArray, List.getElem?_cons_zero, List.getElem?_cons_succ, Option.some.injEq] at ho; subst ho; intro K hK)
    go_simp
    (refine hK.out _ _ (fun h => by simp at h) ?_; clear hK K; try simp only [Act.put, List.setIfInBounds_toArray, List.set_cons_zero, List.set_cons_succ])
    refine wpSeq_done ?_
    have hgx : g ≠ w1.heap.size := own_ne HO3.out.p HX3.out.p (by decide) g rfl
    have hgy : g ≠ w1.heap.size + 1 := own_ne HO3.out.p HY3.out.p (by decide) g rfl
    have HL4 := Lib.hid (((HL3.out.setCell (p := ⟨g, kk * 2, none⟩) hg (.int .i64 x)).setCell (p := ⟨g, kk * 2 + 1, none⟩) hg (.int .i64 y)).drew)
    have HX4 : Hid (BlkF ((w3.setCell ⟨g, kk * 2, none⟩ (.int .i64 x)).setCell ⟨g, kk * 2 + 1, none⟩ (.int .i64 y)).drew w1.heap.size 24 #[.int .i64 sn, .slice B zs.length d]) := ⟨((HX3.out.p.far (p := ⟨g, kk * 2, none⟩) hgx.symm (.int .i64 x)).far (p := ⟨g, kk * 2 + 1, none⟩) hgx.symm (.int .i64 y)).below (stepD1 _) (by have := HX3.out.p.lt; simpa using this)⟩
    have HY4 : Hid (BlkF ((w3.setCell ⟨g, kk * 2, none⟩ (.int .i64 x)).setCell ⟨g, kk * 2 + 1, none⟩ (.int .i64 y)).drew (w1.heap.size + 1) 24 #[.int .i64 sn, .slice (some ⟨g, 0, none⟩) zs.length c2]) := ⟨((HY3.out.p.far (p := ⟨g, kk * 2, none⟩) hgy.symm (.int .i64 x)).far (p := ⟨g, kk * 2 + 1, none⟩) hgy.symm (.int .i64 y)).below (stepD1 _) (by have := HY3.out.p.lt; simpa using this)⟩
    have HO4 : Hid (OwnF ((w3.setCell ⟨g, kk * 2, none⟩ (.int .i64 x)).setCell ⟨g, kk * 2 + 1, none⟩ (.int .i64 y)).drew w1.heap.size 41 2 (.slice (some ⟨g, 0, none⟩) zs.length c2) zs.length (flat (zs.set kk (x, y)))) := ⟨own_below (HOn.out (x, y)) (stepD1 _)⟩
    have HHOK : Hid (GOk ⟨sn, zs.set kk (x, y)⟩) := ok_set HOK.out HPO.out kk
    obtain ⟨hs, hhs⟩ : ∃ hs, zs.set kk (x, y) = hs := ⟨_, rfl⟩
    have hsl : Hid (hs.length = zs.length) := by rw [← hhs]; exact List.length_set
    rw [hhs] at HO4 HHOK
    generalize ((w3.setCell ⟨g, kk * 2, none⟩ (.int .i64 x)).setCell ⟨g, kk * 2 + 1, none⟩ (.int .i64 y)).drew = w4 at HL4 HX4 HY4 HO4 ⊢
    clear HL3 HX3 HY3 HO3 HOn hf hu0 hu1 hgx hgy hhs HL2 HX2 HY2 HO htm hwK hwa hnz hne
    generalize (some ⟨g, 0, none⟩ : Option Addr) = Y at HY4 HO4 ⊢
    clear hg
    go_wp2_with fail
    have HIOK : Hid (GOk ⟨sn, zs ++ [(x, y)]⟩) := ok_more HOK.out HPO.out l1
    obtain ⟨is, his⟩ : ∃ is, Hid (zs ++ [(x, y)] = is) := ⟨_, Lib.hid rfl⟩
    rw [his.out] at HIOK
    have isl : is.length = zs.length + 1 := by rw [← his.out]; simp
    refine wp_region_noPanic ?_
    refine wp_region_tri (fun W => W.cell? ⟨w1.heap.size, 0, none⟩ = some (.int .i64 sn) ∧ W.cell? ⟨w1.heap.size, 1, none⟩ = some (.slice B zs.length d)) (fun _ => True) (Ord3.ofList [0, 1, 2, 3, 5, 6, 7] (.fork3 4 (.fork 8 (.fork 9 (.step 10 (.step 11 (.step 12 .done))) 11 (.step 9 (.step 10 (.step 12 .done)))) 11 (.step 8 (.step 9 (.step 10 (.step 12 .done))))) 8 (.fork 4 (.fork 9 (.step 10 (.step 11 (.step 12 .done))) 11 (.step 9 (.step 10 (.step 12 .done)))) 11 (.step 4 (.step 9 (.step 10 (.step 12 .done))))) 11 (.fork 4 (.step 8 (.step 9 (.step 10 (.step 12 .done)))) 8 (.step 4 (.step 9 (.step 10 (.step 12 .done))))))) [0, 1, 2, 3, 5, 6, 7, 10] [] [] [12] (by kernel_rfl) (by kernel_rfl) rfl (by kernel_rfl) (by kernel_rfl) (by kernel_rfl) (fun _ _ _ _ _ h => h) ?_ (fun hSS hRR => ?_)
    · exact ⟨⟨HX4.out.p.cell 0, HX4.out.p.cell 1⟩, trivial⟩
    clear hSS hRR
    (refine wpTri_mov rfl rfl ?_; intro o ho; simp only [List.getElem?_toArray, List.getElem?_cons_zero, List.getElem?_cons_succ, Option.some.injEq] at ho; subst ho; refine ⟨?_, Or.inl ⟨by rfl, fun W hSW => ?_⟩, ?_⟩; rotate_left; (focus (go_simp; first | done | with_reducible rfl)); try simp only [Act.put, List.setIfInBounds_toArray, List.set_cons_zero, List.set_cons_succ])
    (refine wpTri_mov rfl rfl ?_; intro o ho; simp only [List.getElem?_toArray, List.getElem?_cons_zero, List.getElem?_cons_succ, Option.some.injEq] at ho; subst ho; refine ⟨?_, Or.inl ⟨by rfl, fun W hSW => ?_⟩, ?_⟩; rotate_left; (focus (go_simp; first | done | with_reducible rfl)); try simp only [Act.put, List.setIfInBounds_toArray, List.set_cons_zero, List.set_cons_succ])
    (refine wpTri_mov rfl rfl ?_; intro o ho; simp only [List.getElem?_toArray, List.getElem?_cons_zero, List.getElem?_cons_succ, Option.some.injEq] at ho; subst ho; refine ⟨?_, Or.inl ⟨by rfl, fun W hSW => ?_⟩, ?_⟩; rotate_left; (focus (go_simp; first | done | with_reducible rfl)); try simp only [Act.put, List.setIfInBounds_toArray, List.set_cons_zero, List.set_cons_succ])
    (refine wpTri_mov rfl rfl ?_; intro o ho; simp only [List.getElem?_toArray, List.getElem?_cons_zero, List.getElem?_cons_succ, Option.some.injEq] at ho; subst ho; refine ⟨?_, Or.inl ⟨by rfl, fun W hSW => ?_⟩, ?_⟩; rotate_left; (focus (go_simp; first | done | with_reducible rfl)); try simp only [Act.put, List.setIfInBounds_toArray, List.set_cons_zero, List.set_cons_succ])
    (refine wpTri_mov rfl rfl ?_; intro o ho; simp only [List.getElem?_toArray, List.getElem?_cons_zero, List.getElem?_cons_succ, Option.some.injEq] at ho; subst ho; refine ⟨?_, Or.inl ⟨by rfl, fun W hSW => ?_⟩, ?_⟩; rotate_left; (focus (go_simp; first | done | with_reducible rfl)); try simp only [Act.put, List.setIfInBounds_toArray, List.set_cons_zero, List.set_cons_succ])
    (refine wpTri_mov rfl rfl ?_; intro o ho; simp only [List.getElem?_toArray, List.getElem?_cons_zero, List.getElem?_cons_succ, Option.some.injEq] at ho; subst ho; refine ⟨?_, Or.inl ⟨by rfl, fun W hSW => ?_⟩, ?_⟩; rotate_left; (focus (go_simp; first | done | with_reducible rfl)); try simp only [Act.put, List.setIfInBounds_toArray, List.set_cons_zero, List.set_cons_succ])
    (refine wpTri_mov rfl rfl ?_; intro o ho; simp only [List.getElem?_toArray, List.getElem?_cons_zero, List.getElem?_cons_succ, Option.some.injEq] at ho; subst ho; refine ⟨?_, Or.inl ⟨by rfl, fun W hSW => ?_⟩, ?_⟩; rotate_left; (focus (go_simp; first | done | with_reducible rfl)); try simp only [Act.put, List.setIfInBounds_toArray, List.set_cons_zero, List.set_cons_succ])
    have HXS := Lib.hid (HX4.out.step (stepD1 _))
    have HYS := Lib.hid (HY4.out.step (stepD1 _))
    have HHS : Hid (PrsF w4.drew Y hs) := ⟨Prs.of_vals (Vals.of_own (own_below HO4.out.p (stepD1 _)))⟩
    have HBS : Hid (PrsF w4.drew B zs) := ⟨((HP1.out.below HL4.out).more HL4.out.size).after (stepD1 _)⟩
    have HLS : Hid (Low w w4.drew) := ⟨below2 HW.out HW.out.size HL4.out.drew⟩
    generalize w4.drew = wS at HXS HYS HHS HBS HLS ⊢
    have HCL : Hid (∀ W, Low wS W → W.cell? ⟨w1.heap.size, 0, none⟩ = some (.int .i64 sn) ∧ W.cell? ⟨w1.heap.size, 1, none⟩ = some (.slice B zs.length d)) := fun W h => ⟨(HXS.out.p.below h.b HXS.out.p.lt).cell 0, (HXS.out.p.below h.b HXS.out.p.lt).cell 1⟩
    have LS := Lib.hid (Low.refl wS)
    clear HX4 HY4 HO4 HL4 isl
    refine wpTri_fork3 ?_ ?_ ?_
    · skip
      (refine fixW_of rfl ?_; intro o ho; simp only [List.getElem?_toArray, List.getElem?_cons_zero, List.getElem?_cons_succ, Option.some.injEq] at ho; subst ho; intro K hK)
      refine step_append_prs rfl (.const (.slice none 0 0)) (.tmp 51) rfl wS.heap.size [] (.slice none 0 0) rfl (own_nil _ _ _ _) wS.heap.size B d zs rfl (HBS.out.p.below LS.out.b) (by simp; omega) LS.out.size zs rfl ?_
      intro A4 c4 wa1 H4 hc4 HG
      have hb := grown_nil HG.out
      replace LS := Lib.hid (LS.out.step hb)
      clear hb HG hc4
      (refine hK.out _ _ (fun _ _ => HCL.out _ LS.out) (fun _ _ => trivial) ?_; clear hK K; try simp only [Act.put, List.setIfInBounds_toArray, List.set_cons_zero, List.set_cons_succ])
      refine wpTri_fork ?_ ?_
      · skip
        (refine fixW_of rfl ?_; intro o ho; simp only [List.getElem?_toArray, List.getElem?_cons_zero, List.getElem?_cons_succ, Option.some.injEq] at ho; subst ho; intro K hK)
        go_simp
        have HV : Hid (PrsF (wa1.alloc (.cells #[.int .i64 x, .int .i64 y] 41)) (some ⟨wa1.heap.size, 0, none⟩) [(x, y)]) := ⟨Prs.of_vals (ps := [(x, y)]) (vals_new' wa1 [.int .i64 x, .int .i64 y] 41)⟩
        replace LS := Lib.hid (LS.out.step (stepA wa1 (.cells #[.int .i64 x, .int .i64 y] 41))); replace H4 := Lib.hid (H4.out.step (stepA wa1 (.cells #[.int .i64 x, .int .i64 y] 41)))
        (refine hK.out _ _ (fun _ _ => HCL.out _ LS.out) (fun _ _ => trivial) ?_; clear hK K; try simp only [Act.put, List.setIfInBounds_toArray, List.set_cons_zero, List.set_cons_succ])
        generalize wa1.alloc (.cells #[.int .i64 x, .int .i64 y] 41) = wa2 at HV LS H4 ⊢
        generalize wa1.heap.size = g8 at HV ⊢
        refine wpTri_fork ?_ ?_
        · skip
          (refine fixW_of rfl ?_; intro o ho; simp only [List.getElem?_toArray, List.getElem?_cons_zero, List.getElem?_cons_succ, Option.some.injEq] at ho; subst ho; intro K hK)
          refine step_append_prs rfl (.tmp 52) (.tmp 56) rfl wS.heap.size zs (.slice A4 zs.length c4) rfl H4.out.p wa2.heap.size (some ⟨g8, 0, none⟩) 1 [(x, y)] rfl HV.out.p (by simp; omega) LS.out.size is his.out ?_
          intro A9 c9 wa3 H9 hc9 HG
          replace LS := Lib.hid (LS.out.grown HG.out (own_block H4.out.p))
          clear HG HV H4
          (refine hK.out _ _ (fun _ _ => HCL.out _ LS.out) (fun _ _ => trivial) ?_; clear hK K; try simp only [Act.put, List.setIfInBounds_toArray, List.set_cons_zero, List.set_cons_succ])
          (refine wpTri_mov rfl rfl ?_; intro o ho; simp only [List.getElem?_toArray, List.getElem?_cons_zero, List.getElem?_cons_succ, Option.some.injEq] at ho; subst ho; refine ⟨?_, Or.inl ⟨by rfl, fun W hSW => ?_⟩, ?_⟩; rotate_left; (focus (go_simp; first | done | with_reducible rfl)); try simp only [Act.put, List.setIfInBounds_toArray, List.set_cons_zero, List.set_cons_succ])
          (refine wpTri_fix rfl rfl rfl ?_; intro o ho; simp only [List.getElem?_toArray, List.getElem?_cons_zero, List.getElem?_cons_succ, Option.some.injEq] at ho; subst ho; intro K hK)
          go_simp
          have hsz0 := LS.out.size
          have HB : Hid (BlkF (wa3.alloc (.cells #[.int .i64 0, .slice none 0 0] 24)) wa3.heap.size 24 #[.int .i64 0, .slice none 0 0]) := ⟨Blk.new _ _ _⟩
          replace LS := Lib.hid (LS.out.step (stepA wa3 (.cells #[.int .i64 0, .slice none 0 0] 24))); replace H9 := Lib.hid (H9.out.step (stepA wa3 (.cells #[.int .i64 0, .slice none 0 0] 24)))
          (refine hK.out _ _ (fun _ _ => HCL.out _ LS.out) (fun _ _ => trivial) ?_; clear hK K; try simp only [Act.put, List.setIfInBounds_toArray, List.set_cons_zero, List.set_cons_succ])
          generalize wa3.alloc (.cells #[.int .i64 0, .slice none 0 0] 24) = wa4 at HB LS H9 ⊢
          generalize hb14 : wa3.heap.size = b14 at HB ⊢
          have HBN : Hid (wS.heap.size ≤ b14) := by rw [← hb14]; exact hsz0
          clear hb14 hsz0
          have d0 := HB.out.cell 0
          have d1 := HB.out.cell 1
          have f0 := HB.out.p.frozen 0
          have f1 := HB.out.p.frozen 1
          (refine wpTri_fix rfl rfl rfl ?_; intro o ho; simp only [List.getElem?_toArray, List.getElem?_cons_zero, List.getElem?_cons_succ, Option.some.injEq] at ho; subst ho; intro K hK)
          go_simp
          clear d0 d1 f0 f1
          have hb14 := HBN.out
          replace LS : Hid (Low wS ((wa4.setCell ⟨b14, 0, none⟩ (.int .i64 sn)).setCell ⟨b14, 1, none⟩ (.slice A9 is.length c9))) := ⟨(LS.out.b.setCell (p := ⟨b14, 0, none⟩) hb14 (.int .i64 sn)).setCell (p := ⟨b14, 1, none⟩) hb14 (.slice A9 is.length c9)⟩
          replace H9 : Hid (OwnF ((wa4.setCell ⟨b14, 0, none⟩ (.int .i64 sn)).setCell ⟨b14, 1, none⟩ (.slice A9 is.length c9)) _ _ _ _ _ _) := ⟨own_set (own_set H9.out.p HB.out.p (by decide) 0 (.int .i64 sn)) (HB.out.p.set_ 0 (.int .i64 sn)) (by decide) 1 (.slice A9 is.length c9)⟩
          replace HB : Hid (BlkF ((wa4.setCell ⟨b14, 0, none⟩ (.int .i64 sn)).setCell ⟨b14, 1, none⟩ (.slice A9 is.length c9)) b14 24 #[.int .i64 sn, .slice A9 is.length c9]) := ⟨(HB.out.p.set_ 0 (.int .i64 sn)).set_ 1 (.slice A9 is.length c9)⟩
          clear hb14
          (refine hK.out _ _ (fun _ _ => HCL.out _ LS.out) (fun _ _ => trivial) ?_; clear hK K; try simp only [Act.put, List.setIfInBounds_toArray, List.set_cons_zero, List.set_cons_succ])
          refine wpTri_done ?_
          generalize (wa4.setCell ⟨b14, 0, none⟩ (.int .i64 sn)).setCell ⟨b14, 1, none⟩ (.slice A9 is.length c9) = wT at LS H9 HB ⊢
          have HI : Hid (PrsF wT A9 is) := ⟨Prs.of_vals (Vals.of_own H9.out.p)⟩
          have HH : Hid (PrsF wT Y hs) := ⟨(HHS.out.p.below LS.out.b).more LS.out.size⟩
          have HY : Hid (BlkF wT (w1.heap.size + 1) 24 #[.int .i64 sn, .slice Y zs.length c2]) := ⟨HYS.out.p.below LS.out.b HYS.out.p.lt⟩
          have HLW : Hid (Low w wT) := ⟨below2 HLS.out.b HLS.out.size LS.out.b⟩
          clear LS H9 HBN
          go_wp2_with fail
          refine (awake1_any _).mono ?_
          rintro e w8 ⟨rfl, hb⟩
          replace HI := Lib.hid (HI.out.step hb); replace HH := Lib.hid (HH.out.step hb); replace HY := Lib.hid (HY.out.step hb); replace HB := Lib.hid (HB.out.step hb); replace HLW := Lib.hid (HLW.out.step hb)
          clear hb
          have y0 := HY.out.cell 0
          have y1 := HY.out.cell 1
          go_wp2_with fail
          refine (lsame_at sn hs zs.length hsl.out 2 4 3 Y c2 _ HHOK.out (by omega) (by omega) (by omega) hc2 HH.out.p).mono ?_
          rintro e w9 ⟨rfl, hb⟩
          replace HI := Lib.hid (HI.out.step hb); replace HB := Lib.hid (HB.out.step hb); replace HLW := Lib.hid (HLW.out.step hb)
          clear hb y0 y1
          have y0 := HB.out.cell 0
          have y1 := HB.out.cell 1
          go_wp2_with fail
          refine (lsame_at sn is is.length rfl 2 4 3 A9 c9 _ HIOK.out (by omega) (by omega) (by omega) hc9 HI.out.p).mono ?_
          rintro e w10 ⟨rfl, hb⟩
          replace HLW := Lib.hid (HLW.out.step hb)
          go_wp2_with fail
          go_ret
          exact ⟨rfl, HLW.out.b⟩
        · skip
          (refine fixW_of rfl ?_; intro o ho; simp only [List.getElem?_toArray, List.getElem?_cons_zero, List.getElem?_cons_succ, Option.some.injEq] at ho; subst ho; intro K hK)
          go_simp
          have hsz0 := LS.out.size
          have HB : Hid (BlkF (wa2.alloc (.cells #[.int .i64 0, .slice none 0 0] 24)) wa2.heap.size 24 #[.int .i64 0, .slice none 0 0]) := ⟨Blk.new _ _ _⟩
          replace LS := Lib.hid (LS.out.step (stepA wa2 (.cells #[.int .i64 0, .slice none 0 0] 24))); replace H4 := Lib.hid (H4.out.step (stepA wa2 (.cells #[.int .i64 0, .slice none 0 0] 24))); replace HV := Lib.hid (HV.out.step (stepA wa2 (.cells #[.int .i64 0, .slice none 0 0] 24)))
          (refine hK.out _ _ (fun _ _ => HCL.out _ LS.out) (fun _ _ => trivial) ?_; clear hK K; try simp only [Act.put, List.setIfInBounds_toArray, List.set_cons_zero, List.set_cons_succ])
          generalize wa2.alloc (.cells #[.int .i64 0, .slice none 0 0] 24) = wa5 at HB LS H4 HV ⊢
          generalize hb14 : wa2.heap.size = b14 at HB ⊢
          have HBN : Hid (wS.heap.size ≤ b14) := by rw [← hb14]; exact hsz0
          clear hb14 hsz0
          (refine wpTri_fix rfl rfl rfl ?_; intro o ho; simp only [List.getElem?_toArray, List.getElem?_cons_zero, List.getElem?_cons_succ, Option.some.injEq] at ho; subst ho; intro K hK)
          refine step_append_prs rfl (.tmp 52) (.tmp 56) rfl wS.heap.size zs (.slice A4 zs.length c4) rfl H4.out.p wa5.heap.size (some ⟨g8, 0, none⟩) 1 [(x, y)] rfl HV.out.p (by simp; omega) LS.out.size is his.out ?_
          intro A9 c9 wa6 H9 hc9 HG
          replace HB : Hid (BlkF _ _ _ _) := ⟨HB.out.p.by_ HG.out (own_ne H4.out.p HB.out.p (by decide))⟩
          replace LS := Lib.hid (LS.out.grown HG.out (own_block H4.out.p))
          clear HG HV H4
          (refine hK.out _ _ (fun _ _ => HCL.out _ LS.out) (fun _ _ => trivial) ?_; clear hK K; try simp only [Act.put, List.setIfInBounds_toArray, List.set_cons_zero, List.set_cons_succ])
          (refine wpTri_mov rfl rfl ?_; intro o ho; simp only [List.getElem?_toArray, List.getElem?_cons_zero, List.getElem?_cons_succ, Option.some.injEq] at ho; subst ho; refine ⟨?_, Or.inl ⟨by rfl, fun W hSW => ?_⟩, ?_⟩; rotate_left; (focus (go_simp; first | done | with_reducible rfl)); try simp only [Act.put, List.setIfInBounds_toArray, List.set_cons_zero, List.set_cons_succ])
          have d0 := HB.out.cell 0
          have d1 := HB.out.cell 1
          have f0 := HB.out.p.frozen 0
          have f1 := HB.out.p.frozen 1
          (refine wpTri_fix rfl rfl rfl ?_; intro o ho; simp only [List.getElem?_toArray, List.getElem?_cons_zero, List.getElem?_cons_succ, Option.some.injEq] at ho; subst ho; intro K hK)
          go_simp
          clear d0 d1 f0 f1
          have hb14 := HBN.out
          replace LS : Hid (Low wS ((wa6.setCell ⟨b14, 0, none⟩ (.int .i64 sn)).setCell ⟨b14, 1, none⟩ (.slice A9 is.length c9))) := ⟨(LS.out.b.setCell (p := ⟨b14, 0, none⟩) hb14 (.int .i64 sn)).setCell (p := ⟨b14, 1, none⟩) hb14 (.slice A9 is.length c9)⟩
          replace H9 : Hid (OwnF ((wa6.setCell ⟨b14, 0, none⟩ (.int .i64 sn)).setCell ⟨b14, 1, none⟩ (.slice A9 is.length c9)) _ _ _ _ _ _) := ⟨own_set (own_set H9.out.p HB.out.p (by decide) 0 (.int .i64 sn)) (HB.out.p.set_ 0 (.int .i64 sn)) (by decide) 1 (.slice A9 is.length c9)⟩
          replace HB : Hid (BlkF ((wa6.setCell ⟨b14, 0, none⟩ (.int .i64 sn)).setCell ⟨b14, 1, none⟩ (.slice A9 is.length c9)) b14 24 #[.int .i64 sn, .slice A9 is.length c9]) := ⟨(HB.out.p.set_ 0 (.int .i64 sn)).set_ 1 (.slice A9 is.length c9)⟩
          clear hb14
          (refine hK.out _ _ (fun _ _ => HCL.out _ LS.out) (fun _ _ => trivial) ?_; clear hK K; try simp only [Act.put, List.setIfInBounds_toArray, List.set_cons_zero, List.set_cons_succ])
          refine wpTri_done ?_
          generalize (wa6.setCell ⟨b14, 0, none⟩ (.int .i64 sn)).setCell ⟨b14, 1, none⟩ (.slice A9 is.length c9) = wT at LS H9 HB ⊢
          have HI : Hid (PrsF wT A9 is) := ⟨Prs.of_vals (Vals.of_own H9.out.p)⟩
          have HH : Hid (PrsF wT Y hs) := ⟨(HHS.out.p.below LS.out.b).more LS.out.size⟩
          have HY : Hid (BlkF wT (w1.heap.size + 1) 24 #[.int .i64 sn, .slice Y zs.length c2]) := ⟨HYS.out.p.below LS.out.b HYS.out.p.lt⟩
          have HLW : Hid (Low w wT) := ⟨below2 HLS.out.b HLS.out.size LS.out.b⟩
          clear LS H9 HBN
          go_wp2_with fail
          refine (awake1_any _).mono ?_
          rintro e w8 ⟨rfl, hb⟩
          replace HI := Lib.hid (HI.out.step hb); replace HH := Lib.hid (HH.out.step hb); replace HY := Lib.hid (HY.out.step hb); replace HB := Lib.hid (HB.out.step hb); replace HLW := Lib.hid (HLW.out.step hb)
          clear hb
          have y0 := HY.out.cell 0
          have y1 := HY.out.cell 1
          go_wp2_with fail
          refine (lsame_at sn hs zs.length hsl.out 2 4 3 Y c2 _ HHOK.out (by omega) (by omega) (by omega) hc2 HH.out.p).mono ?_
          rintro e w9 ⟨rfl, hb⟩
          replace HI := Lib.hid (HI.out.step hb); replace HB := Lib.hid (HB.out.step hb); replace HLW := Lib.hid (HLW.out.step hb)
          clear hb y0 y1
          have y0 := HB.out.cell 0
          have y1 := HB.out.cell 1
          go_wp2_with fail
          refine (lsame_at sn is is.length rfl 2 4 3 A9 c9 _ HIOK.out (by omega) (by omega) (by omega) hc9 HI.out.p).mono ?_
          rintro e w10 ⟨rfl, hb⟩
          replace HLW := Lib.hid (HLW.out.step hb)
          go_wp2_with fail
          go_ret
          exact ⟨rfl, HLW.out.b⟩
      · skip
        (refine fixW_of rfl ?_; intro o ho; simp only [List.getElem?_toArray, List.getElem?_cons_zero, List.getElem?_cons_succ, Option.some.injEq] at ho; subst ho; intro K hK)
        go_simp
        have hsz0 := LS.out.size
        have HB : Hid (BlkF (wa1.alloc (.cells #[.int .i64 0, .slice none 0 0] 24)) wa1.heap.size 24 #[.int .i64 0, .slice none 0 0]) := ⟨Blk.new _ _ _⟩
        replace LS := Lib.hid (LS.out.step (stepA wa1 (.cells #[.int .i64 0, .slice none 0 0] 24))); replace H4 := Lib.hid (H4.out.step (stepA wa1 (.cells #[.int .i64 0, .slice none 0 0] 24)))
        (refine hK.out _ _ (fun _ _ => HCL.out _ LS.out) (fun _ _ => trivial) ?_; clear hK K; try simp only [Act.put, List.setIfInBounds_toArray, List.set_cons_zero, List.set_cons_succ])
        generalize wa1.alloc (.cells #[.int .i64 0, .slice none 0 0] 24) = wa7 at HB LS H4 ⊢
        generalize hb14 : wa1.heap.size = b14 at HB ⊢
        have HBN : Hid (wS.heap.size ≤ b14) := by rw [← hb14]; exact hsz0
        clear hb14 hsz0
        (refine wpTri_fix rfl rfl rfl ?_; intro o ho; simp only [List.getElem?_toArray, List.getElem?_cons_zero, List.getElem?_cons_succ, Option.some.injEq] at ho; subst ho; intro K hK)
        go_simp
        have HV : Hid (PrsF (wa7.alloc (.cells #[.int .i64 x, .int .i64 y] 41)) (some ⟨wa7.heap.size, 0, none⟩) [(x, y)]) := ⟨Prs.of_vals (ps := [(x, y)]) (vals_new' wa7 [.int .i64 x, .int .i64 y] 41)⟩
        replace LS := Lib.hid (LS.out.step (stepA wa7 (.cells #[.int .i64 x, .int .i64 y] 41))); replace H4 := Lib.hid (H4.out.step (stepA wa7 (.cells #[.int .i64 x, .int .i64 y] 41))); replace HB := Lib.hid (HB.out.step (stepA wa7 (.cells #[.int .i64 x, .int .i64 y] 41)))
        (refine hK.out _ _ (fun _ _ => HCL.out _ LS.out) (fun _ _ => trivial) ?_; clear hK K; try simp only [Act.put, List.setIfInBounds_toArray, List.set_cons_zero, List.set_cons_succ])
        generalize wa7.alloc (.cells #[.int .i64 x, .int .i64 y] 41) = wa8 at HV LS H4 HB ⊢
        generalize wa7.heap.size = g8 at HV ⊢
        (refine wpTri_fix rfl rfl rfl ?_; intro o ho; simp only [List.getElem?_toArray, List.getElem?_cons_zero, List.getElem?_cons_succ, Option.some.injEq] at ho; subst ho; intro K hK)
        refine step_append_prs rfl (.tmp 52) (.tmp 56) rfl wS.heap.size zs (.slice A4 zs.length c4) rfl H4.out.p wa8.heap.size (some ⟨g8, 0, none⟩) 1 [(x, y)] rfl HV.out.p (by simp; omega) LS.out.size is his.out ?_
        intro A9 c9 wa9 H9 hc9 HG
        replace HB : Hid (BlkF _ _ _ _) := ⟨HB.out.p.by_ HG.out (own_ne H4.out.p HB.out.p (by decide))⟩
        replace LS := Lib.hid (LS.out.grown HG.out (own_block H4.out.p))
        clear HG HV H4
        (refine hK.out _ _ (fun _ _ => HCL.out _ LS.out) (fun _ _ => trivial) ?_; clear hK K; try simp only [Act.put, List.setIfInBounds_toArray, List.set_cons_zero, List.set_cons_succ])
        (refine wpTri_mov rfl rfl ?_; intro o ho; simp only [List.getElem?_toArray, List.getElem?_cons_zero, List.getElem?_cons_succ, Option.some.injEq] at ho; subst ho; refine ⟨?_, Or.inl ⟨by rfl, fun W hSW => ?_⟩, ?_⟩; rotate_left; (focus (go_simp; first | done | with_reducible rfl)); try simp only [Act.put, List.setIfInBounds_toArray, List.set_cons_zero, List.set_cons_succ])
        have d0 := HB.out.cell 0
        have d1 := HB.out.cell 1
        have f0 := HB.out.p.frozen 0
        have f1 := HB.out.p.frozen 1
        (refine wpTri_fix rfl rfl rfl ?_; intro o ho; simp only [List.getElem?_toArray, List.getElem?_cons_zero, List.getElem?_cons_succ, Option.some.injEq] at ho; subst ho; intro K hK)
        go_simp
        clear d0 d1 f0 f1
        have hb14 := HBN.out
        replace LS : Hid (Low wS ((wa9.setCell ⟨b14, 0, none⟩ (.int .i64 sn)).setCell ⟨b14, 1, none⟩ (.slice A9 is.length c9))) := ⟨(LS.out.b.setCell (p := ⟨b14, 0, none⟩) hb14 (.int .i64 sn)).setCell (p := ⟨b14, 1, none⟩) hb14 (.slice A9 is.length c9)⟩
        replace H9 : Hid (OwnF ((wa9.setCell ⟨b14, 0, none⟩ (.int .i64 sn)).setCell ⟨b14, 1, none⟩ (.slice A9 is.length c9)) _ _ _ _ _ _) := ⟨own_set (own_set H9.out.p HB.out.p (by decide) 0 (.int .i64 sn)) (HB.out.p.set_ 0 (.int .i64 sn)) (by decide) 1 (.slice A9 is.length c9)⟩
        replace HB : Hid (BlkF ((wa9.setCell ⟨b14, 0, none⟩ (.int .i64 sn)).setCell ⟨b14, 1, none⟩ (.slice A9 is.length c9)) b14 24 #[.int .i64 sn, .slice A9 is.length c9]) := ⟨(HB.out.p.set_ 0 (.int .i64 sn)).set_ 1 (.slice A9 is.length c9)⟩
        clear hb14
        (refine hK.out _ _ (fun _ _ => HCL.out _ LS.out) (fun _ _ => trivial) ?_; clear hK K; try simp only [Act.put, List.setIfInBounds_toArray, List.set_cons_zero, List.set_cons_succ])
        refine wpTri_done ?_
        generalize (wa9.setCell ⟨b14, 0, none⟩ (.int .i64 sn)).setCell ⟨b14, 1, none⟩ (.slice A9 is.length c9) = wT at LS H9 HB ⊢
        have HI : Hid (PrsF wT A9 is) := ⟨Prs.of_vals (Vals.of_own H9.out.p)⟩
        have HH : Hid (PrsF wT Y hs) := ⟨(HHS.out.p.below LS.out.b).more LS.out.size⟩
        have HY : Hid (BlkF wT (w1.heap.size + 1) 24 #[.int .i64 sn, .slice Y zs.length c2]) := ⟨HYS.out.p.below LS.out.b HYS.out.p.lt⟩
        have HLW : Hid (Low w wT) := ⟨below2 HLS.out.b HLS.out.size LS.out.b⟩
        clear LS H9 HBN
        go_wp2_with fail
        refine (awake1_any _).mono ?_
        rintro e w8 ⟨rfl, hb⟩
        replace HI := Lib.hid (HI.out.step hb); replace HH := Lib.hid (HH.out.step hb); replace HY := Lib.hid (HY.out.step hb); replace HB := Lib.hid (HB.out.step hb); replace HLW := Lib.hid (HLW.out.step hb)
        clear hb
        have y0 := HY.out.cell 0
        have y1 := HY.out.cell 1
        go_wp2_with fail
        refine (lsame_at sn hs zs.length hsl.out 2 4 3 Y c2 _ HHOK.out (by omega) (by omega) (by omega) hc2 HH.out.p).mono ?_
        rintro e w9 ⟨rfl, hb⟩
        replace HI := Lib.hid (HI.out.step hb); replace HB := Lib.hid (HB.out.step hb); replace HLW := Lib.hid (HLW.out.step hb)
        clear hb y0 y1
        have y0 := HB.out.cell 0
        have y1 := HB.out.cell 1
        go_wp2_with fail
        refine (lsame_at sn is is.length rfl 2 4 3 A9 c9 _ HIOK.out (by omega) (by omega) (by omega) hc9 HI.out.p).mono ?_
        rintro e w10 ⟨rfl, hb⟩
        replace HLW := Lib.hid (HLW.out.step hb)
        go_wp2_with fail
        go_ret
        exact ⟨rfl, HLW.out.b⟩
    · skip
      (refine fixW_of rfl ?_; intro o ho; simp only [List.getElem?_toArray, List.getElem?_cons_zero, List.getElem?_cons_succ, Option.some.injEq] at ho; subst ho; intro K hK)
      go_simp
      have HV : Hid (PrsF (wS.alloc (.cells #[.int .i64 x, .int .i64 y] 41)) (some ⟨wS.heap.size, 0, none⟩) [(x, y)]) := ⟨Prs.of_vals (ps := [(x, y)]) (vals_new' wS [.int .i64 x, .int .i64 y] 41)⟩
      replace LS := Lib.hid (LS.out.step (stepA wS (.cells #[.int .i64 x, .int .i64 y] 41)))
      (refine hK.out _ _ (fun _ _ => HCL.out _ LS.out) (fun _ _ => trivial) ?_; clear hK K; try simp only [Act.put, List.setIfInBounds_toArray, List.set_cons_zero, List.set_cons_succ])
      generalize wS.alloc (.cells #[.int .i64 x, .int .i64 y] 41) = wa10 at HV LS ⊢
      generalize wS.heap.size = g8 at HV ⊢
      refine wpTri_fork ?_ ?_
      · skip
        (refine fixW_of rfl ?_; intro o ho; simp only [List.getElem?_toArray, List.getElem?_cons_zero, List.getElem?_cons_succ, Option.some.injEq] at ho; subst ho; intro K hK)
        refine step_append_prs rfl (.const (.slice none 0 0)) (.tmp 51) rfl wS.heap.size [] (.slice none 0 0) rfl (own_nil _ _ _ _) wS.heap.size B d zs rfl (HBS.out.p.below LS.out.b) (by simp; omega) LS.out.size zs rfl ?_
        intro A4 c4 wa11 H4 hc4 HG
        have hb := grown_nil HG.out
        replace LS := Lib.hid (LS.out.step hb); replace HV := Lib.hid (HV.out.step hb)
        clear hb HG hc4
        (refine hK.out _ _ (fun _ _ => HCL.out _ LS.out) (fun _ _ => trivial) ?_; clear hK K; try simp only [Act.put, List.setIfInBounds_toArray, List.set_cons_zero, List.set_cons_succ])
        refine wpTri_fork ?_ ?_
        · skip
          (refine fixW_of rfl ?_; intro o ho; simp only [List.getElem?_toArray, List.getElem?_cons_zero, List.getElem?_cons_succ, Option.some.injEq] at ho; subst ho; intro K hK)
          refine step_append_prs rfl (.tmp 52) (.tmp 56) rfl wS.heap.size zs (.slice A4 zs.length c4) rfl H4.out.p wa11.heap.size (some ⟨g8, 0, none⟩) 1 [(x, y)] rfl HV.out.p (by simp; omega) LS.out.size is his.out ?_
          intro A9 c9 wa12 H9 hc9 HG
          replace LS := Lib.hid (LS.out.grown HG.out (own_block H4.out.p))
          clear HG HV H4
          (refine hK.out _ _ (fun _ _ => HCL.out _ LS.out) (fun _ _ => trivial) ?_; clear hK K; try simp only [Act.put, List.setIfInBounds_toArray, List.set_cons_zero, List.set_cons_succ])
          (refine wpTri_mov rfl rfl ?_; intro o ho; simp only [List.getElem?_toArray, List.getElem?_cons_zero, List.getElem?_cons_succ, Option.some.injEq] at ho; subst ho; refine ⟨?_, Or.inl ⟨by rfl, fun W hSW => ?_⟩, ?_⟩; rotate_left; (focus (go_simp; first | done | with_reducible rfl)); try simp only [Act.put, List.setIfInBounds_toArray, List.set_cons_zero, List.set_cons_succ])
          (refine wpTri_fix rfl rfl rfl ?_; intro o ho; simp only [List.getElem?_toArray, List.getElem?_cons_zero, List.getElem?_cons_succ, Option.some.injEq] at ho; subst ho; intro K hK)
          go_simp
          have hsz0 := LS.out.size
          have HB : Hid (BlkF (wa12.alloc (.cells #[.int .i64 0, .slice none 0 0] 24)) wa12.heap.size 24 #[.int .i64 0, .slice none 0 0]) := ⟨Blk.new _ _ _⟩
          replace LS := Lib.hid (LS.out.step (stepA wa12 (.cells #[.int .i64 0, .slice none 0 0] 24))); replace H9 := Lib.hid (H9.out.step (stepA wa12 (.cells #[.int .i64 0, .slice none 0 0] 24)))
          (refine hK.out _ _ (fun _ _ => HCL.out _ LS.out) (fun _ _ => trivial) ?_; clear hK K; try simp only [Act.put, List.setIfInBounds_toArray, List.set_cons_zero, List.set_cons_succ])
          generalize wa12.alloc (.cells #[.int .i64 0, .slice none 0 0] 24) = wa13 at HB LS H9 ⊢
          generalize hb14 : wa12.heap.size = b14 at HB ⊢
          have HBN : Hid (wS.heap.size ≤ b14) := by rw [← hb14]; exact hsz0
          clear hb14 hsz0
          have d0 := HB.out.cell 0
          have d1 := HB.out.cell 1
          have f0 := HB.out.p.frozen 0
          have f1 := HB.out.p.frozen 1
          (refine wpTri_fix rfl rfl rfl ?_; intro o ho; simp only [List.getElem?_toArray, List.getElem?_cons_zero, List.getElem?_cons_succ, Option.some.injEq] at ho; subst ho; intro K hK)
          go_simp
          clear d0 d1 f0 f1
          have hb14 := HBN.out
          replace LS : Hid (Low wS ((wa13.setCell ⟨b14, 0, none⟩ (.int .i64 sn)).setCell ⟨b14, 1, none⟩ (.slice A9 is.length c9))) := ⟨(LS.out.b.setCell (p := ⟨b14, 0, none⟩) hb14 (.int .i64 sn)).setCell (p := ⟨b14, 1, none⟩) hb14 (.slice A9 is.length c9)⟩
          replace H9 : Hid (OwnF ((wa13.setCell ⟨b14, 0, none⟩ (.int .i64 sn)).setCell ⟨b14, 1, none⟩ (.slice A9 is.length c9)) _ _ _ _ _ _) := ⟨own_set (own_set H9.out.p HB.out.p (by decide) 0 (.int .i64 sn)) (HB.out.p.set_ 0 (.int .i64 sn)) (by decide) 1 (.slice A9 is.length c9)⟩
          replace HB : Hid (BlkF ((wa13.setCell ⟨b14, 0, none⟩ (.int .i64 sn)).setCell ⟨b14, 1, none⟩ (.slice A9 is.length c9)) b14 24 #[.int .i64 sn, .slice A9 is.length c9]) := ⟨(HB.out.p.set_ 0 (.int .i64 sn)).set_ 1 (.slice A9 is.length c9)⟩
          clear hb14
          (refine hK.out _ _ (fun _ _ => HCL.out _ LS.out) (fun _ _ => trivial) ?_; clear hK K; try simp only [Act.put, List.setIfInBounds_toArray, List.set_cons_zero, List.set_cons_succ])
          refine wpTri_done ?_
          generalize (wa13.setCell ⟨b14, 0, none⟩ (.int .i64 sn)).setCell ⟨b14, 1, none⟩ (.slice A9 is.length c9) = wT at LS H9 HB ⊢
          have HI : Hid (PrsF wT A9 is) := ⟨Prs.of_vals (Vals.of_own H9.out.p)⟩
          have HH : Hid (PrsF wT Y hs) := ⟨(HHS.out.p.below LS.out.b).more LS.out.size⟩
          have HY : Hid (BlkF wT (w1.heap.size + 1) 24 #[.int .i64 sn, .slice Y zs.length c2]) := ⟨HYS.out.p.below LS.out.b HYS.out.p.lt⟩
          have HLW : Hid (Low w wT) := ⟨below2 HLS.out.b HLS.out.size LS.out.b⟩
          clear LS H9 HBN
          go_wp2_with fail
          refine (awake1_any _).mono ?_
          rintro e w8 ⟨rfl, hb⟩
          replace HI := Lib.hid (HI.out.step hb); replace HH := Lib.hid (HH.out.step hb); replace HY := Lib.hid (HY.out.step hb); replace HB := Lib.hid (HB.out.step hb); replace HLW := Lib.hid (HLW.out.step hb)
          clear hb
          have y0 := HY.out.cell 0
          have y1 := HY.out.cell 1
          go_wp2_with fail
          refine (lsame_at sn hs zs.length hsl.out 2 4 3 Y c2 _ HHOK.out (by omega) (by omega) (by omega) hc2 HH.out.p).mono ?_
          rintro e w9 ⟨rfl, hb⟩
          replace HI := Lib.hid (HI.out.step hb); replace HB := Lib.hid (HB.out.step hb); replace HLW := Lib.hid (HLW.out.step hb)
          clear hb y0 y1
          have y0 := HB.out.cell 0
          have y1 := HB.out.cell 1
          go_wp2_with fail
          refine (lsame_at sn is is.length rfl 2 4 3 A9 c9 _ HIOK.out (by omega) (by omega) (by omega) hc9 HI.out.p).mono ?_
          rintro e w10 ⟨rfl, hb⟩
          replace HLW := Lib.hid (HLW.out.step hb)
          go_wp2_with fail
          go_ret
          exact ⟨rfl, HLW.out.b⟩
        · skip
          (refine fixW_of rfl ?_; intro o ho; simp only [List.getElem?_toArray, List.getElem?_cons_zero, List.getElem?_cons_succ, Option.some.injEq] at ho; subst ho; intro K hK)
          go_simp
          have hsz0 := LS.out.size
          have HB : Hid (BlkF (wa11.alloc (.cells #[.int .i64 0, .slice none 0 0] 24)) wa11.heap.size 24 #[.int .i64 0, .slice none 0 0]) := ⟨Blk.new _ _ _⟩
          replace LS := Lib.hid (LS.out.step (stepA wa11 (.cells #[.int .i64 0, .slice none 0 0] 24))); replace H4 := Lib.hid (H4.out.step (stepA wa11 (.cells #[.int .i64 0, .slice none 0 0] 24))); replace HV := Lib.hid (HV.out.step (stepA wa11 (.cells #[.int .i64 0, .slice none 0 0] 24)))
          (refine hK.out _ _ (fun _ _ => HCL.out _ LS.out) (fun _ _ => trivial) ?_; clear hK K; try simp only [Act.put, List.setIfInBounds_toArray, List.set_cons_zero, List.set_cons_succ])
          generalize wa11.alloc (.cells #[.int .i64 0, .slice none 0 0] 24) = wa14 at HB LS H4 HV ⊢
          generalize hb14 : wa11.heap.size = b14 at HB ⊢
          have HBN : Hid (wS.heap.size ≤ b14) := by rw [← hb14]; exact hsz0
          clear hb14 hsz0
          (refine wpTri_fix rfl rfl rfl ?_; intro o ho; simp only [List.getElem?_toArray, List.getElem?_cons_zero, List.getElem?_cons_succ, Option.some.injEq] at ho; subst ho; intro K hK)
          refine step_append_prs rfl (.tmp 52) (.tmp 56) rfl wS.heap.size zs (.slice A4 zs.length c4) rfl H4.out.p wa14.heap.size (some ⟨g8, 0, none⟩) 1 [(x, y)] rfl HV.out.p (by simp; omega) LS.out.size is his.out ?_
          intro A9 c9 wa15 H9 hc9 HG
          replace HB : Hid (BlkF _ _ _ _) := ⟨HB.out.p.by_ HG.out (own_ne H4.out.p HB.out.p (by decide))⟩
          replace LS := Lib.hid (LS.out.grown HG.out (own_block H4.out.p))
          clear HG HV H4
          (refine hK.out _ _ (fun _ _ => HCL.out _ LS.out) (fun _ _ => trivial) ?_; clear hK K; try simp only [Act.put, List.setIfInBounds_toArray, List.set_cons_zero, List.set_cons_succ])
          (refine wpTri_mov rfl rfl ?_; intro o ho; simp only [List.getElem?_toArray, List.getElem?_cons_zero, List.getElem?_cons_succ, Option.some.injEq] at ho; subst ho; refine ⟨?_, Or.inl ⟨by rfl, fun W hSW => ?_⟩, ?_⟩; rotate_left; (focus (go_simp; first | done | with_reducible rfl)); try simp only [Act.put, List.setIfInBounds_toArray, List.set_cons_zero, List.set_cons_succ])
          have d0 := HB.out.cell 0
          have d1 := HB.out.cell 1
          have f0 := HB.out.p.frozen 0
          have f1 := HB.out.p.frozen 1
          (refine wpTri_fix rfl rfl rfl ?_; intro o ho; simp only [List.getElem?_toArray, List.getElem?_cons_zero, List.getElem?_cons_succ, Option.some.injEq] at ho; subst ho; intro K hK)
          go_simp
          clear d0 d1 f0 f1
          have hb14 := HBN.out
          replace LS : Hid (Low wS ((wa15.setCell ⟨b14, 0, none⟩ (.int .i64 sn)).setCell ⟨b14, 1, none⟩ (.slice A9 is.length c9))) := ⟨(LS.out.b.setCell (p := ⟨b14, 0, none⟩) hb14 (.int .i64 sn)).setCell (p := ⟨b14, 1, none⟩) hb14 (.slice A9 is.length c9)⟩
          replace H9 : Hid (OwnF ((wa15.setCell ⟨b14, 0, none⟩ (.int .i64 sn)).setCell ⟨b14, 1, none⟩ (.slice A9 is.length c9)) _ _ _ _ _ _) := ⟨own_set (own_set H9.out.p HB.out.p (by decide) 0 (.int .i64 sn)) (HB.out.p.set_ 0 (.int .i64 sn)) (by decide) 1 (.slice A9 is.length c9)⟩
          replace HB : Hid (BlkF ((wa15.setCell ⟨b14, 0, none⟩ (.int .i64 sn)).setCell ⟨b14, 1, none⟩ (.slice A9 is.length c9)) b14 24 #[.int .i64 sn, .slice A9 is.length c9]) := ⟨(HB.out.p.set_ 0 (.int .i64 sn)).set_ 1 (.slice A9 is.length c9)⟩
          clear hb14
          (refine hK.out _ _ (fun _ _ => HCL.out _ LS.out) (fun _ _ => trivial) ?_; clear hK K; try simp only [Act.put, List.setIfInBounds_toArray, List.set_cons_zero, List.set_cons_succ])
          refine wpTri_done ?_
          generalize (wa15.setCell ⟨b14, 0, none⟩ (.int .i64 sn)).setCell ⟨b14, 1, none⟩ (.slice A9 is.length c9) = wT at LS H9 HB ⊢
          have HI : Hid (PrsF wT A9 is) := ⟨Prs.of_vals (Vals.of_own H9.out.p)⟩
          have HH : Hid (PrsF wT Y hs) := ⟨(HHS.out.p.below LS.out.b).more LS.out.size⟩
          have HY : Hid (BlkF wT (w1.heap.size + 1) 24 #[.int .i64 sn, .slice Y zs.length c2]) := ⟨HYS.out.p.below LS.out.b HYS.out.p.lt⟩
          have HLW : Hid (Low w wT) := ⟨below2 HLS.out.b HLS.out.size LS.out.b⟩
          clear LS H9 HBN
          go_wp2_with fail
          refine (awake1_any _).mono ?_
          rintro e w8 ⟨rfl, hb⟩
          replace HI := Lib.hid (HI.out.step hb); replace HH := Lib.hid (HH.out.step hb); replace HY := Lib.hid (HY.out.step hb); replace HB := Lib.hid (HB.out.step hb); replace HLW := Lib.hid (HLW.out.step hb)
          clear hb
          have y0 := HY.out.cell 0
          have y1 := HY.out.cell 1
          go_wp2_with fail
          refine (lsame_at sn hs zs.length hsl.out 2 4 3 Y c2 _ HHOK.out (by omega) (by omega) (by omega) hc2 HH.out.p).mono ?_
          rintro e w9 ⟨rfl, hb⟩
          replace HI := Lib.hid (HI.out.step hb); replace HB := Lib.hid (HB.out.step hb); replace HLW := Lib.hid (HLW.out.step hb)
          clear hb y0 y1
          have y0 := HB.out.cell 0
          have y1 := HB.out.cell 1
          go_wp2_with fail
          refine (lsame_at sn is is.length rfl 2 4 3 A9 c9 _ HIOK.out (by omega) (by omega) (by omega) hc9 HI.out.p).mono ?_
          rintro e w10 ⟨rfl, hb⟩
          replace HLW := Lib.hid (HLW.out.step hb)
          go_wp2_with fail
          go_ret
          exact ⟨rfl, HLW.out.b⟩
      · skip
        (refine fixW_of rfl ?_; intro o ho; simp only [List.getElem?_toArray, List.getElem?_cons_zero, List.getElem?_cons_succ, Option.some.injEq] at ho; subst ho; intro K hK)
        go_simp
        have hsz0 := LS.out.size
        have HB : Hid (BlkF (wa10.alloc (.cells #[.int .i64 0, .slice none 0 0] 24)) wa10.heap.size 24 #[.int .i64 0, .slice none 0 0]) := ⟨Blk.new _ _ _⟩
        replace LS := Lib.hid (LS.out.step (stepA wa10 (.cells #[.int .i64 0, .slice none 0 0] 24))); replace HV := Lib.hid (HV.out.step (stepA wa10 (.cells #[.int .i64 0, .slice none 0 0] 24)))
        (refine hK.out _ _ (fun _ _ => HCL.out _ LS.out) (fun _ _ => trivial) ?_; clear hK K; try simp only [Act.put, List.setIfInBounds_toArray, List.set_cons_zero, List.set_cons_succ])
        generalize wa10.alloc (.cells #[.int .i64 0, .slice none 0 0] 24) = wa16 at HB LS HV ⊢
        generalize hb14 : wa10.heap.size = b14 at HB ⊢
        have HBN : Hid (wS.heap.size ≤ b14) := by rw [← hb14]; exact hsz0
        clear hb14 hsz0
        (refine wpTri_fix rfl rfl rfl ?_; intro o ho; simp only [List.getElem?_toArray, List.getElem?_cons_zero, List.getElem?_cons_succ, Option.some.injEq] at ho; subst ho; intro K hK)
        refine step_append_prs rfl (.const (.slice none 0 0)) (.tmp 51) rfl wS.heap.size [] (.slice none 0 0) rfl (own_nil _ _ _ _) wS.heap.size B d zs rfl (HBS.out.p.below LS.out.b) (by simp; omega) LS.out.size zs rfl ?_
        intro A4 c4 wa17 H4 hc4 HG
        have hb := grown_nil HG.out
        replace LS := Lib.hid (LS.out.step hb); replace HV := Lib.hid (HV.out.step hb); replace HB := Lib.hid (HB.out.step hb)
        clear hb HG hc4
        (refine hK.out _ _ (fun _ _ => HCL.out _ LS.out) (fun _ _ => trivial) ?_; clear hK K; try simp only [Act.put, List.setIfInBounds_toArray, List.set_cons_zero, List.set_cons_succ])
        (refine wpTri_fix rfl rfl rfl ?_; intro o ho; simp only [List.getElem?_toArray, List.getElem?_cons_zero, List.getElem?_cons_succ, Option.some.injEq] at ho; subst ho; intro K hK)
        refine step_append_prs rfl (.tmp 52) (.tmp 56) rfl wS.heap.size zs (.slice A4 zs.length c4) rfl H4.out.p wa17.heap.size (some ⟨g8, 0, none⟩) 1 [(x, y)] rfl HV.out.p (by simp; omega) LS.out.size is his.out ?_
        intro A9 c9 wa18 H9 hc9 HG
        replace HB : Hid (BlkF _ _ _ _) := ⟨HB.out.p.by_ HG.out (own_ne H4.out.p HB.out.p (by decide))⟩
        replace LS := Lib.hid (LS.out.grown HG.out (own_block H4.out.p))
        clear HG HV H4
        (refine hK.out _ _ (fun _ _ => HCL.out _ LS.out) (fun _ _ => trivial) ?_; clear hK K; try simp only [Act.put, List.setIfInBounds_toArray, List.set_cons_zero, List.set_cons_succ])
        (refine wpTri_mov rfl rfl ?_; intro o ho; simp only [List.getElem?_toArray, List.getElem?_cons_zero, List.getElem?_cons_succ, Option.some.injEq] at ho; subst ho; refine ⟨?_, Or.inl ⟨by rfl, fun W hSW => ?_⟩, ?_⟩; rotate_left; (focus (go_simp; first | done | with_reducible rfl)); try simp only [Act.put, List.setIfInBounds_toArray, List.set_cons_zero, List.set_cons_succ])
        have d0 := HB.out.cell 0
        have d1 := HB.out.cell 1
        have f0 := HB.out.p.frozen 0
        have f1 := HB.out.p.frozen 1
        (refine wpTri_fix rfl rfl rfl ?_; intro o ho; simp only [List.getElem?_toArray, List.getElem?_cons_zero, List.getElem?_cons_succ, Option.some.injEq] at ho; subst ho; intro K hK)
        go_simp
        clear d0 d1 f0 f1
        have hb14 := HBN.out
        replace LS : Hid (Low wS ((wa18.setCell ⟨b14, 0, none⟩ (.int .i64 sn)).setCell ⟨b14, 1, none⟩ (.slice A9 is.length c9))) := ⟨(LS.out.b.setCell (p := ⟨b14, 0, none⟩) hb14 (.int .i64 sn)).setCell (p := ⟨b14, 1, none⟩) hb14 (.slice A9 is.length c9)⟩
        replace H9 : Hid (OwnF ((wa18.setCell ⟨b14, 0, none⟩ (.int .i64 sn)).setCell ⟨b14, 1, none⟩ (.slice A9 is.length c9)) _ _ _ _ _ _) := ⟨own_set (own_set H9.out.p HB.out.p (by decide) 0 (.int .i64 sn)) (HB.out.p.set_ 0 (.int .i64 sn)) (by decide) 1 (.slice A9 is.length c9)⟩
        replace HB : Hid (BlkF ((wa18.setCell ⟨b14, 0, none⟩ (.int .i64 sn)).setCell ⟨b14, 1, none⟩ (.slice A9 is.length c9)) b14 24 #[.int .i64 sn, .slice A9 is.length c9]) := ⟨(HB.out.p.set_ 0 (.int .i64 sn)).set_ 1 (.slice A9 is.length c9)⟩
        clear hb14
        (refine hK.out _ _ (fun _ _ => HCL.out _ LS.out) (fun _ _ => trivial) ?_; clear hK K; try simp only [Act.put, List.setIfInBounds_toArray, List.set_cons_zero, List.set_cons_succ])
        refine wpTri_done ?_
        generalize (wa18.setCell ⟨b14, 0, none⟩ (.int .i64 sn)).setCell ⟨b14, 1, none⟩ (.slice A9 is.length c9) = wT at LS H9 HB ⊢
        have HI : Hid (PrsF wT A9 is) := ⟨Prs.of_vals (Vals.of_own H9.out.p)⟩
        have HH : Hid (PrsF wT Y hs) := ⟨(HHS.out.p.below LS.out.b).more LS.out.size⟩
        have HY : Hid (BlkF wT (w1.heap.size + 1) 24 #[.int .i64 sn, .slice Y zs.length c2]) := ⟨HYS.out.p.below LS.out.b HYS.out.p.lt⟩
        have HLW : Hid (Low w wT) := ⟨below2 HLS.out.b HLS.out.size LS.out.b⟩
        clear LS H9 HBN
        go_wp2_with fail
        refine (awake1_any _).mono ?_
        rintro e w8 ⟨rfl, hb⟩
        replace HI := Lib.hid (HI.out.step hb); replace HH := Lib.hid (HH.out.step hb); replace HY := Lib.hid (HY.out.step hb); replace HB := Lib.hid (HB.out.step hb); replace HLW := Lib.hid (HLW.out.step hb)
        clear hb
        have y0 := HY.out.cell 0
        have y1 := HY.out.cell 1
        go_wp2_with fail
        refine (lsame_at sn hs zs.length hsl.out 2 4 3 Y c2 _ HHOK.out (by omega) (by omega) (by omega) hc2 HH.out.p).mono ?_
        rintro e w9 ⟨rfl, hb⟩
        replace HI := Lib.hid (HI.out.step hb); replace HB := Lib.hid (HB.out.step hb); replace HLW := Lib.hid (HLW.out.step hb)
        clear hb y0 y1
        have y0 := HB.out.cell 0
        have y1 := HB.out.cell 1
        go_wp2_with fail
        refine (lsame_at sn is is.length rfl 2 4 3 A9 c9 _ HIOK.out (by omega) (by omega) (by omega) hc9 HI.out.p).mono ?_
        rintro e w10 ⟨rfl, hb⟩
        replace HLW := Lib.hid (HLW.out.step hb)
        go_wp2_with fail
        go_ret
        exact ⟨rfl, HLW.out.b⟩
    · skip
      (refine fixW_of rfl ?_; intro o ho; simp only [List.getElem?_toArray, List.getElem?_cons_zero, List.getElem?_cons_succ, Option.some.injEq] at ho; subst ho; intro K hK)
      go_simp
      have hsz0 := LS.out.size
      have HB : Hid (BlkF (wS.alloc (.cells #[.int .i64 0, .slice none 0 0] 24)) wS.heap.size 24 #[.int .i64 0, .slice none 0 0]) := ⟨Blk.new _ _ _⟩
      replace LS := Lib.hid (LS.out.step (stepA wS (.cells #[.int .i64 0, .slice none 0 0] 24)))
      (refine hK.out _ _ (fun _ _ => HCL.out _ LS.out) (fun _ _ => trivial) ?_; clear hK K; try simp only [Act.put, List.setIfInBounds_toArray, List.set_cons_zero, List.set_cons_succ])
      generalize wS.alloc (.cells #[.int .i64 0, .slice none 0 0] 24) = wa19 at HB LS ⊢
      generalize hb14 : wS.heap.size = b14 at HB ⊢
      have HBN : Hid (wS.heap.size ≤ b14) := by rw [← hb14]; exact hsz0
      clear hb14 hsz0
      refine wpTri_fork ?_ ?_
      · skip
        (refine fixW_of rfl ?_; intro o ho; simp only [List.getElem?_toArray, List.getElem?_cons_zero, List.getElem?_cons_succ, Option.some.injEq] at ho; subst ho; intro K hK)
        refine step_append_prs rfl (.const (.slice none 0 0)) (.tmp 51) rfl wS.heap.size [] (.slice none 0 0) rfl (own_nil _ _ _ _) wS.heap.size B d zs rfl (HBS.out.p.below LS.out.b) (by simp; omega) LS.out.size zs rfl ?_
        intro A4 c4 wa20 H4 hc4 HG
        have hb := grown_nil HG.out
        replace LS := Lib.hid (LS.out.step hb); replace HB := Lib.hid (HB.out.step hb)
        clear hb HG hc4
        (refine hK.out _ _ (fun _ _ => HCL.out _ LS.out) (fun _ _ => trivial) ?_; clear hK K; try simp only [Act.put, List.setIfInBounds_toArray, List.set_cons_zero, List.set_cons_succ])
        (refine wpTri_fix rfl rfl rfl ?_; intro o ho; simp only [List.getElem?_toArray, List.getElem?_cons_zero, List.getElem?_cons_succ, Option.some.injEq] at ho; subst ho; intro K hK)
        go_simp
        have HV : Hid (PrsF (wa20.alloc (.cells #[.int .i64 x, .int .i64 y] 41)) (some ⟨wa20.heap.size, 0, none⟩) [(x, y)]) := ⟨Prs.of_vals (ps := [(x, y)]) (vals_new' wa20 [.int .i64 x, .int .i64 y] 41)⟩
        replace LS := Lib.hid (LS.out.step (stepA wa20 (.cells #[.int .i64 x, .int .i64 y] 41))); replace H4 := Lib.hid (H4.out.step (stepA wa20 (.cells #[.int .i64 x, .int .i64 y] 41))); replace HB := Lib.hid (HB.out.step (stepA wa20 (.cells #[.int .i64 x, .int .i64 y] 41)))
        (refine hK.out _ _ (fun _ _ => HCL.out _ LS.out) (fun _ _ => trivial) ?_; clear hK K; try simp only [Act.put, List.setIfInBounds_toArray, List.set_cons_zero, List.set_cons_succ])
        generalize wa20.alloc (.cells #[.int .i64 x, .int .i64 y] 41) = wa21 at HV LS H4 HB ⊢
        generalize wa20.heap.size = g8 at HV ⊢
        (refine wpTri_fix rfl rfl rfl ?_; intro o ho; simp only [List.getElem?_toArray, List.getElem?_cons_zero, List.getElem?_cons_succ, Option.some.injEq] at ho; subst ho; intro K hK)
        refine step_append_prs rfl (.tmp 52) (.tmp 56) rfl wS.heap.size zs (.slice A4 zs.length c4) rfl H4.out.p wa21.heap.size (some ⟨g8, 0, none⟩) 1 [(x, y)] rfl HV.out.p (by simp; omega) LS.out.size is his.out ?_
        intro A9 c9 wa22 H9 hc9 HG
        replace HB : Hid (BlkF _ _ _ _) := ⟨HB.out.p.by_ HG.out (own_ne H4.out.p HB.out.p (by decide))⟩
        replace LS := Lib.hid (LS.out.grown HG.out (own_block H4.out.p))
        clear HG HV H4
        (refine hK.out _ _ (fun _ _ => HCL.out _ LS.out) (fun _ _ => trivial) ?_; clear hK K; try simp only [Act.put, List.setIfInBounds_toArray, List.set_cons_zero, List.set_cons_succ])
        (refine wpTri_mov rfl rfl ?_; intro o ho; simp only [List.getElem?_toArray, List.getElem?_cons_zero, List.getElem?_cons_succ, Option.some.injEq] at ho; subst ho; refine ⟨?_, Or.inl ⟨by rfl, fun W hSW => ?_⟩, ?_⟩; rotate_left; (focus (go_simp; first | done | with_reducible rfl)); try simp only [Act.put, List.setIfInBounds_toArray, List.set_cons_zero, List.set_cons_succ])
        have d0 := HB.out.cell 0
        have d1 := HB.out.cell 1
        have f0 := HB.out.p.frozen 0
        have f1 := HB.out.p.frozen 1
        (refine wpTri_fix rfl rfl rfl ?_; intro o ho; simp only [List.getElem?_toArray, List.getElem?_cons_zero, List.getElem?_cons_succ, Option.some.injEq] at ho; subst ho; intro K hK)
        go_simp
        clear d0 d1 f0 f1
        have hb14 := HBN.out
        replace LS : Hid (Low wS ((wa22.setCell ⟨b14, 0, none⟩ (.int .i64 sn)).setCell ⟨b14, 1, none⟩ (.slice A9 is.length c9))) := ⟨(LS.out.b.setCell (p := ⟨b14, 0, none⟩) hb14 (.int .i64 sn)).setCell (p := ⟨b14, 1, none⟩) hb14 (.slice A9 is.length c9)⟩
        replace H9 : Hid (OwnF ((wa22.setCell ⟨b14, 0, none⟩ (.int .i64 sn)).setCell ⟨b14, 1, none⟩ (.slice A9 is.length c9)) _ _ _ _ _ _) := ⟨own_set (own_set H9.out.p HB.out.p (by decide) 0 (.int .i64 sn)) (HB.out.p.set_ 0 (.int .i64 sn)) (by decide) 1 (.slice A9 is.length c9)⟩
        replace HB : Hid (BlkF ((wa22.setCell ⟨b14, 0, none⟩ (.int .i64 sn)).setCell ⟨b14, 1, none⟩ (.slice A9 is.length c9)) b14 24 #[.int .i64 sn, .slice A9 is.length c9]) := ⟨(HB.out.p.set_ 0 (.int .i64 sn)).set_ 1 (.slice A9 is.length c9)⟩
        clear hb14
        (refine hK.out _ _ (fun _ _ => HCL.out _ LS.out) (fun _ _ => trivial) ?_; clear hK K; try simp only [Act.put, List.setIfInBounds_toArray, List.set_cons_zero, List.set_cons_succ])
        refine wpTri_done ?_
        generalize (wa22.setCell ⟨b14, 0, none⟩ (.int .i64 sn)).setCell ⟨b14, 1, none⟩ (.slice A9 is.length c9) = wT at LS H9 HB ⊢
        have HI : Hid (PrsF wT A9 is) := ⟨Prs.of_vals (Vals.of_own H9.out.p)⟩
        have HH : Hid (PrsF wT Y hs) := ⟨(HHS.out.p.below LS.out.b).more LS.out.size⟩
        have HY : Hid (BlkF wT (w1.heap.size + 1) 24 #[.int .i64 sn, .slice Y zs.length c2]) := ⟨HYS.out.p.below LS.out.b HYS.out.p.lt⟩
        have HLW : Hid (Low w wT) := ⟨below2 HLS.out.b HLS.out.size LS.out.b⟩
        clear LS H9 HBN
        go_wp2_with fail
        refine (awake1_any _).mono ?_
        rintro e w8 ⟨rfl, hb⟩
        replace HI := Lib.hid (HI.out.step hb); replace HH := Lib.hid (HH.out.step hb); replace HY := Lib.hid (HY.out.step hb); replace HB := Lib.hid (HB.out.step hb); replace HLW := Lib.hid (HLW.out.step hb)
        clear hb
        have y0 := HY.out.cell 0
        have y1 := HY.out.cell 1
        go_wp2_with fail
        refine (lsame_at sn hs zs.length hsl.out 2 4 3 Y c2 _ HHOK.out (by omega) (by omega) (by omega) hc2 HH.out.p).mono ?_
        rintro e w9 ⟨rfl, hb⟩
        replace HI := Lib.hid (HI.out.step hb); replace HB := Lib.hid (HB.out.step hb); replace HLW := Lib.hid (HLW.out.step hb)
        clear hb y0 y1
        have y0 := HB.out.cell 0
        have y1 := HB.out.cell 1
        go_wp2_with fail
        refine (lsame_at sn is is.length rfl 2 4 3 A9 c9 _ HIOK.out (by omega) (by omega) (by omega) hc9 HI.out.p).mono ?_
        rintro e w10 ⟨rfl, hb⟩
        replace HLW := Lib.hid (HLW.out.step hb)
        go_wp2_with fail
        go_ret
        exact ⟨rfl, HLW.out.b⟩
      · skip
        (refine fixW_of rfl ?_; intro o ho; simp only [List.getElem?_toArray, List.getElem?_cons_zero, List.getElem?_cons_succ, Option.some.injEq] at ho; subst ho; intro K hK)
        go_simp
        have HV : Hid (PrsF (wa19.alloc (.cells #[.int .i64 x, .int .i64 y] 41)) (some ⟨wa19.heap.size, 0, none⟩) [(x, y)]) := ⟨Prs.of_vals (ps := [(x, y)]) (vals_new' wa19 [.int .i64 x, .int .i64 y] 41)⟩
        replace LS := Lib.hid (LS.out.step (stepA wa19 (.cells #[.int .i64 x, .int .i64 y] 41))); replace HB := Lib.hid (HB.out.step (stepA wa19 (.cells #[.int .i64 x, .int .i64 y] 41)))
        (refine hK.out _ _ (fun _ _ => HCL.out _ LS.out) (fun _ _ => trivial) ?_; clear hK K; try simp only [Act.put, List.setIfInBounds_toArray, List.set_cons_zero, List.set_cons_succ])
        generalize wa19.alloc (.cells #[.int .i64 x, .int .i64 y] 41) = wa23 at HV LS HB ⊢
        generalize wa19.heap.size = g8 at HV ⊢
        (refine wpTri_fix rfl rfl rfl ?_; intro o ho; simp only [List.getElem?_toArray, List.getElem?_cons_zero, List.getElem?_cons_succ, Option.some.injEq] at ho; subst ho; intro K hK)
        refine step_append_prs rfl (.const (.slice none 0 0)) (.tmp 51) rfl wS.heap.size [] (.slice none 0 0) rfl (own_nil _ _ _ _) wS.heap.size B d zs rfl (HBS.out.p.below LS.out.b) (by simp; omega) LS.out.size zs rfl ?_
        intro A4 c4 wa24 H4 hc4 HG
        have hb := grown_nil HG.out
        replace LS := Lib.hid (LS.out.step hb); replace HV := Lib.hid (HV.out.step hb); replace HB := Lib.hid (HB.out.step hb)
        clear hb HG hc4
        (refine hK.out _ _ (fun _ _ => HCL.out _ LS.out) (fun _ _ => trivial) ?_; clear hK K; try simp only [Act.put, List.setIfInBounds_toArray, List.set_cons_zero, List.set_cons_succ])
        (refine wpTri_fix rfl rfl rfl ?_; intro o ho; simp only [List.getElem?_toArray, List.getElem?_cons_zero, List.getElem?_cons_succ, Option.some.injEq] at ho; subst ho; intro K hK)
        refine step_append_prs rfl (.tmp 52) (.tmp 56) rfl wS.heap.size zs (.slice A4 zs.length c4) rfl H4.out.p wa24.heap.size (some ⟨g8, 0, none⟩) 1 [(x, y)] rfl HV.out.p (by simp; omega) LS.out.size is his.out ?_
        intro A9 c9 wa25 H9 hc9 HG
        replace HB : Hid (BlkF _ _ _ _) := ⟨HB.out.p.by_ HG.out (own_ne H4.out.p HB.out.p (by decide))⟩
        replace LS := Lib.hid (LS.out.grown HG.out (own_block H4.out.p))
        clear HG HV H4
        (refine hK.out _ _ (fun _ _ => HCL.out _ LS.out) (fun _ _ => trivial) ?_; clear hK K; try simp only [Act.put, List.setIfInBounds_toArray, List.set_cons_zero, List.set_cons_succ])
        (refine wpTri_mov rfl rfl ?_; intro o ho; simp only [List.getElem?_toArray, List.getElem?_cons_zero, List.getElem?_cons_succ, Option.some.injEq] at ho; subst ho; refine ⟨?_, Or.inl ⟨by rfl, fun W hSW => ?_⟩, ?_⟩; rotate_left; (focus (go_simp; first | done | with_reducible rfl)); try simp only [Act.put, List.setIfInBounds_toArray, List.set_cons_zero, List.set_cons_succ])
        have d0 := HB.out.cell 0
        have d1 := HB.out.cell 1
        have f0 := HB.out.p.frozen 0
        have f1 := HB.out.p.frozen 1
        (refine wpTri_fix rfl rfl rfl ?_; intro o ho; simp only [List.getElem?_toArray, List.getElem?_cons_zero, List.getElem?_cons_succ, Option.some.injEq] at ho; subst ho; intro K hK)
        go_simp
        clear d0 d1 f0 f1
        have hb14 := HBN.out
        replace LS : Hid (Low wS ((wa25.setCell ⟨b14, 0, none⟩ (.int .i64 sn)).setCell ⟨b14, 1, none⟩ (.slice A9 is.length c9))) := ⟨(LS.out.b.setCell (p := ⟨b14, 0, none⟩) hb14 (.int .i64 sn)).setCell (p := ⟨b14, 1, none⟩) hb14 (.slice A9 is.length c9)⟩
        replace H9 : Hid (OwnF ((wa25.setCell ⟨b14, 0, none⟩ (.int .i64 sn)).setCell ⟨b14, 1, none⟩ (.slice A9 is.length c9)) _ _ _ _ _ _) := ⟨own_set (own_set H9.out.p HB.out.p (by decide) 0 (.int .i64 sn)) (HB.out.p.set_ 0 (.int .i64 sn)) (by decide) 1 (.slice A9 is.length c9)⟩
        replace HB : Hid (BlkF ((wa25.setCell ⟨b14, 0, none⟩ (.int .i64 sn)).setCell ⟨b14, 1, none⟩ (.slice A9 is.length c9)) b14 24 #[.int .i64 sn, .slice A9 is.length c9]) := ⟨(HB.out.p.set_ 0 (.int .i64 sn)).set_ 1 (.slice A9 is.length c9)⟩
        clear hb14
        (refine hK.out _ _ (fun _ _ => HCL.out _ LS.out) (fun _ _ => trivial) ?_; clear hK K; try simp only [Act.put, List.setIfInBounds_toArray, List.set_cons_zero, List.set_cons_succ])
        refine wpTri_done ?_
        generalize (wa25.setCell ⟨b14, 0, none⟩ (.int .i64 sn)).setCell ⟨b14, 1, none⟩ (.slice A9 is.length c9) = wT at LS H9 HB ⊢
        have HI : Hid (PrsF wT A9 is) := ⟨Prs.of_vals (Vals.of_own H9.out.p)⟩
        have HH : Hid (PrsF wT Y hs) := ⟨(HHS.out.p.below LS.out.b).more LS.out.size⟩
        have HY : Hid (BlkF wT (w1.heap.size + 1) 24 #[.int .i64 sn, .slice Y zs.length c2]) := ⟨HYS.out.p.below LS.out.b HYS.out.p.lt⟩
        have HLW : Hid (Low w wT) := ⟨below2 HLS.out.b HLS.out.size LS.out.b⟩
        clear LS H9 HBN
        go_wp2_with fail
        refine (awake1_any _).mono ?_
        rintro e w8 ⟨rfl, hb⟩
        replace HI := Lib.hid (HI.out.step hb); replace HH := Lib.hid (HH.out.step hb); replace HY := Lib.hid (HY.out.step hb); replace HB := Lib.hid (HB.out.step hb); replace HLW := Lib.hid (HLW.out.step hb)
        clear hb
        have y0 := HY.out.cell 0
        have y1 := HY.out.cell 1
        go_wp2_with fail
        refine (lsame_at sn hs zs.length hsl.out 2 4 3 Y c2 _ HHOK.out (by omega) (by omega) (by omega) hc2 HH.out.p).mono ?_
        rintro e w9 ⟨rfl, hb⟩
        replace HI := Lib.hid (HI.out.step hb); replace HB := Lib.hid (HB.out.step hb); replace HLW := Lib.hid (HLW.out.step hb)
        clear hb y0 y1
        have y0 := HB.out.cell 0
        have y1 := HB.out.cell 1
        go_wp2_with fail
        refine (lsame_at sn is is.length rfl 2 4 3 A9 c9 _ HIOK.out (by omega) (by omega) (by omega) hc9 HI.out.p).mono ?_
        rintro e w10 ⟨rfl, hb⟩
        replace HLW := Lib.hid (HLW.out.step hb)
        go_wp2_with fail
        go_ret
        exact ⟨rfl, HLW.out.b⟩
  · have HL4 := Lib.hid ((HL2.out.b).setCell (p := ⟨w1.heap.size + 1, 1, none⟩) (by simp) (.slice Y zs.length c2))
    have HX4 : Hid (BlkF (w2.setCell ⟨w1.heap.size + 1, 1, none⟩ (.slice Y zs.length c2)) w1.heap.size 24 #[.int .i64 sn, .slice B zs.length d]) := ⟨HX2.out.p.far (p := ⟨w1.heap.size + 1, 1, none⟩) (by simp) (.slice Y zs.length c2)⟩
    have HY4 : Hid (BlkF (w2.setCell ⟨w1.heap.size + 1, 1, none⟩ (.slice Y zs.length c2)) (w1.heap.size + 1) 24 #[.int .i64 sn, .slice Y zs.length c2]) := ⟨HY2.out.p.set_ 1 (.slice Y zs.length c2)⟩
    have HO4 : Hid (OwnF _ _ _ _ _ _ _) := ⟨own_set HO.out.p HY2.out.p (by decide) 1 (.slice Y zs.length c2)⟩
    have HHOK : Hid (GOk ⟨sn, zs⟩) := HOK
    obtain ⟨hs, hhs⟩ : ∃ hs, zs = hs := ⟨_, rfl⟩
    have hsl : Hid (hs.length = zs.length) := by rw [← hhs]; exact rfl
    have HO5 : Hid (OwnF (w2.setCell ⟨w1.heap.size + 1, 1, none⟩ (.slice Y zs.length c2)) w1.heap.size 41 2 (.slice Y zs.length c2) zs.length (flat hs)) := by rw [← hhs]; exact HO4
    have HHOK5 : Hid (GOk ⟨sn, hs⟩) := by rw [← hhs]; exact HHOK
    clear HO4 HHOK hhs
    have HO4 := HO5
    have HHOK := HHOK5
    clear HO5 HHOK5
    generalize w2.setCell ⟨w1.heap.size + 1, 1, none⟩ (.slice Y zs.length c2) = w4 at HL4 HX4 HY4 HO4 ⊢
    clear HL2 HX2 HY2 HO y0 y1 yf0 yf1
    have HIOK : Hid (GOk ⟨sn, zs ++ [(x, y)]⟩) := ok_more HOK.out HPO.out l1
    obtain ⟨is, his⟩ : ∃ is, Hid (zs ++ [(x, y)] = is) := ⟨_, Lib.hid rfl⟩
    rw [his.out] at HIOK
    have isl : is.length = zs.length + 1 := by rw [← his.out]; simp
    refine wp_region_noPanic ?_
    refine wp_region_tri (fun W => W.cell? ⟨w1.heap.size, 0, none⟩ = some (.int .i64 sn) ∧ W.cell? ⟨w1.heap.size, 1, none⟩ = some (.slice B zs.length d)) (fun _ => True) (Ord3.ofList [0, 1, 2, 3, 5, 6, 7] (.fork3 4 (.fork 8 (.fork 9 (.step 10 (.step 11 (.step 12 .done))) 11 (.step 9 (.step 10 (.step 12 .done)))) 11 (.step 8 (.step 9 (.step 10 (.step 12 .done))))) 8 (.fork 4 (.fork 9 (.step 10 (.step 11 (.step 12 .done))) 11 (.step 9 (.step 10 (.step 12 .done)))) 11 (.step 4 (.step 9 (.step 10 (.step 12 .done))))) 11 (.fork 4 (.step 8 (.step 9 (.step 10 (.step 12 .done)))) 8 (.step 4 (.step 9 (.step 10 (.step 12 .done))))))) [0, 1, 2, 3, 5, 6, 7, 10] [] [] [12] (by kernel_rfl) (by kernel_rfl) rfl (by kernel_rfl) (by kernel_rfl) (by kernel_rfl) (fun _ _ _ _ _ h => h) ?_ (fun hSS hRR => ?_)
    · exact ⟨⟨HX4.out.p.cell 0, HX4.out.p.cell 1⟩, trivial⟩
    clear hSS hRR
    (refine wpTri_mov rfl rfl ?_; intro o ho; simp only [List.getElem?_toArray, List.getElem?_cons_zero, List.getElem?_cons_succ, Option.some.injEq] at ho; subst ho; refine ⟨?_, Or.inl ⟨by rfl, fun W hSW => ?_⟩, ?_⟩; rotate_left; (focus (go_simp; first | done | with_reducible rfl)); try simp only [Act.put, List.setIfInBounds_toArray, List.set_cons_zero, List.set_cons_succ])
    (refine wpTri_mov rfl rfl ?_; intro o ho; simp only [List.getElem?_toArray, List.getElem?_cons_zero, List.getElem?_cons_succ, Option.some.injEq] at ho; subst ho; refine ⟨?_, Or.inl ⟨by rfl, fun W hSW => ?_⟩, ?_⟩; rotate_left; (focus (go_simp; first | done | with_reducible rfl)); try simp only [Act.put, List.setIfInBounds_toArray, List.set_cons_zero, List.set_cons_succ])
    (refine wpTri_mov rfl rfl ?_; intro o ho; simp only [List.getElem?_toArray, List.getElem?_cons_zero, List.getElem?_cons_succ, Option.some.injEq] at ho; subst ho; refine ⟨?_, Or.inl ⟨by rfl, fun W hSW => ?_⟩, ?_⟩; rotate_left; (focus (go_simp; first | done | with_reducible rfl)); try simp only [Act.put, List.setIfInBounds_toArray, List.set_cons_zero, List.set_cons_succ])
    (refine wpTri_mov rfl rfl ?_; intro o ho; simp only [List.getElem?_toArray, List.getElem?_cons_zero, List.getElem?_cons_succ, Option.some.injEq] at ho; subst ho; refine ⟨?_, Or.inl ⟨by rfl, fun W hSW => ?_⟩, ?_⟩; rotate_left; (focus (go_simp; first | done | with_reducible rfl)); try simp only [Act.put, List.setIfInBounds_toArray, List.set_cons_zero, List.set_cons_succ])
    (refine wpTri_mov rfl rfl ?_; intro o ho; simp only [List.getElem?_toArray, List.getElem?_cons_zero, List.getElem?_cons_succ, Option.some.injEq] at ho; subst ho; refine ⟨?_, Or.inl ⟨by rfl, fun W hSW => ?_⟩, ?_⟩; rotate_left; (focus (go_simp; first | done | with_reducible rfl)); try simp only [Act.put, List.setIfInBounds_toArray, List.set_cons_zero, List.set_cons_succ])
    (refine wpTri_mov rfl rfl ?_; intro o ho; simp only [List.getElem?_toArray, List.getElem?_cons_zero, List.getElem?_cons_succ, Option.some.injEq] at ho; subst ho; refine ⟨?_, Or.inl ⟨by rfl, fun W hSW => ?_⟩, ?_⟩; rotate_left; (focus (go_simp; first | done | with_reducible rfl)); try simp only [Act.put, List.setIfInBounds_toArray, List.set_cons_zero, List.set_cons_succ])
    (refine wpTri_mov rfl rfl ?_; intro o ho; simp only [List.getElem?_toArray, List.getElem?_cons_zero, List.getElem?_cons_succ, Option.some.injEq] at ho; subst ho; refine ⟨?_, Or.inl ⟨by rfl, fun W hSW => ?_⟩, ?_⟩; rotate_left; (focus (go_simp; first | done | with_reducible rfl)); try simp only [Act.put, List.setIfInBounds_toArray, List.set_cons_zero, List.set_cons_succ])
    have HXS := Lib.hid (HX4.out.step (stepD1 _))
    have HYS := Lib.hid (HY4.out.step (stepD1 _))
    have HHS : Hid (PrsF w4.drew Y hs) := ⟨Prs.of_vals (Vals.of_own (own_below HO4.out.p (stepD1 _)))⟩
    have HBS : Hid (PrsF w4.drew B zs) := ⟨((HP1.out.below HL4.out).more HL4.out.size).after (stepD1 _)⟩
    have HLS : Hid (Low w w4.drew) := ⟨below2 HW.out HW.out.size HL4.out.drew⟩
    generalize w4.drew = wS at HXS HYS HHS HBS HLS ⊢
    have HCL : Hid (∀ W, Low wS W → W.cell? ⟨w1.heap.size, 0, none⟩ = some (.int .i64 sn) ∧ W.cell? ⟨w1.heap.size, 1, none⟩ = some (.slice B zs.length d)) := fun W h => ⟨(HXS.out.p.below h.b HXS.out.p.lt).cell 0, (HXS.out.p.below h.b HXS.out.p.lt).cell 1⟩
    have LS := Lib.hid (Low.refl wS)
    clear HX4 HY4 HO4 HL4 isl
    refine wpTri_fork3 ?_ ?_ ?_
    · skip
      (refine fixW_of rfl ?_; intro o ho; simp only [List.getElem?_toArray, List.getElem?_cons_zero, List.getElem?_cons_succ, Option.some.injEq] at ho; subst ho; intro K hK)
      refine step_append_prs rfl (.const (.slice none 0 0)) (.tmp 51) rfl wS.heap.size [] (.slice none 0 0) rfl (own_nil _ _ _ _) wS.heap.size B d zs rfl (HBS.out.p.below LS.out.b) (by simp; omega) LS.out.size zs rfl ?_
      intro A4 c4 wa26 H4 hc4 HG
      have hb := grown_nil HG.out
      replace LS := Lib.hid (LS.out.step hb)
      clear hb HG hc4
      (refine hK.out _ _ (fun _ _ => HCL.out _ LS.out) (fun _ _ => trivial) ?_; clear hK K; try simp only [Act.put, List.setIfInBounds_toArray, List.set_cons_zero, List.set_cons_succ])
      refine wpTri_fork ?_ ?_
      · skip
        (refine fixW_of rfl ?_; intro o ho; simp only [List.getElem?_toArray, List.getElem?_cons_zero, List.getElem?_cons_succ, Option.some.injEq] at ho; subst ho; intro K hK)
        go_simp
        have HV : Hid (PrsF (wa26.alloc (.cells #[.int .i64 x, .int .i64 y] 41)) (some ⟨wa26.heap.size, 0, none⟩) [(x, y)]) := ⟨Prs.of_vals (ps := [(x, y)]) (vals_new' wa26 [.int .i64 x, .int .i64 y] 41)⟩
        replace LS := Lib.hid (LS.out.step (stepA wa26 (.cells #[.int .i64 x, .int .i64 y] 41))); replace H4 := Lib.hid (H4.out.step (stepA wa26 (.cells #[.int .i64 x, .int .i64 y] 41)))
        (refine hK.out _ _ (fun _ _ => HCL.out _ LS.out) (fun _ _ => trivial) ?_; clear hK K; try simp only [Act.put, List.setIfInBounds_toArray, List.set_cons_zero, List.set_cons_succ])
        generalize wa26.alloc (.cells #[.int .i64 x, .int .i64 y] 41) = wa27 at HV LS H4 ⊢
        generalize wa26.heap.size = g8 at HV ⊢
        refine wpTri_fork ?_ ?_
        · skip
          (refine fixW_of rfl ?_; intro o ho; simp only [List.getElem?_toArray, List.getElem?_cons_zero, List.getElem?_cons_succ, Option.some.injEq] at ho; subst ho; intro K hK)
          refine step_append_prs rfl (.tmp 52) (.tmp 56) rfl wS.heap.size zs (.slice A4 zs.length c4) rfl H4.out.p wa27.heap.size (some ⟨g8, 0, none⟩) 1 [(x, y)] rfl HV.out.p (by simp; omega) LS.out.size is his.out ?_
          intro A9 c9 wa28 H9 hc9 HG
          replace LS := Lib.hid (LS.out.grown HG.out (own_block H4.out.p))
          clear HG HV H4
          (refine hK.out _ _ (fun _ _ => HCL.out _ LS.out) (fun _ _ => trivial) ?_; clear hK K; try simp only [Act.put, List.setIfInBounds_toArray, List.set_cons_zero, List.set_cons_succ])
          (refine wpTri_mov rfl rfl ?_; intro o ho; simp only [List.getElem?_toArray, List.getElem?_cons_zero, List.getElem?_cons_succ, Option.some.injEq] at ho; subst ho; refine ⟨?_, Or.inl ⟨by rfl, fun W hSW => ?_⟩, ?_⟩; rotate_left; (focus (go_simp; first | done | with_reducible rfl)); try simp only [Act.put, List.setIfInBounds_toArray, List.set_cons_zero, List.set_cons_succ])
          (refine wpTri_fix rfl rfl rfl ?_; intro o ho; simp only [List.getElem?_toArray, List.getElem?_cons_zero, List.getElem?_cons_succ, Option.some.injEq] at ho; subst ho; intro K hK)
          go_simp
          have hsz0 := LS.out.size
          have HB : Hid (BlkF (wa28.alloc (.cells #[.int .i64 0, .slice none 0 0] 24)) wa28.heap.size 24 #[.int .i64 0, .slice none 0 0]) := ⟨Blk.new _ _ _⟩
          replace LS := Lib.hid (LS.out.step (stepA wa28 (.cells #[.int .i64 0, .slice none 0 0] 24))); replace H9 := Lib.hid (H9.out.step (stepA wa28 (.cells #[.int .i64 0, .slice none 0 0] 24)))
          (refine hK.out _ _ (fun _ _ => HCL.out _ LS.out) (fun _ _ => trivial) ?_; clear hK K; try simp only [Act.put, List.setIfInBounds_toArray, List.set_cons_zero, List.set_cons_succ])
          generalize wa28.alloc (.cells #[.int .i64 0, .slice none 0 0] 24) = wa29 at HB LS H9 ⊢
          generalize hb14 : wa28.heap.size = b14 at HB ⊢
          have HBN : Hid (wS.heap.size ≤ b14) := by rw [← hb14]; exact hsz0
          clear hb14 hsz0
          have d0 := HB.out.cell 0
          have d1 := HB.out.cell 1
          have f0 := HB.out.p.frozen 0
          have f1 := HB.out.p.frozen 1
          (refine wpTri_fix rfl rfl rfl ?_; intro o ho; simp only [List.getElem?_toArray, List.getElem?_cons_zero, List.getElem?_cons_succ, Option.some.injEq] at ho; subst ho; intro K hK)
          go_simp
          clear d0 d1 f0 f1
          have hb14 := HBN.out
          replace LS : Hid (Low wS ((wa29.setCell ⟨b14, 0, none⟩ (.int .i64 sn)).setCell ⟨b14, 1, none⟩ (.slice A9 is.length c9))) := ⟨(LS.out.b.setCell (p := ⟨b14, 0, none⟩) hb14 (.int .i64 sn)).setCell (p := ⟨b14, 1, none⟩) hb14 (.slice A9 is.length c9)⟩
          replace H9 : Hid (OwnF ((wa29.setCell ⟨b14, 0, none⟩ (.int .i64 sn)).setCell ⟨b14, 1, none⟩ (.slice A9 is.length c9)) _ _ _ _ _ _) := ⟨own_set (own_set H9.out.p HB.out.p (by decide) 0 (.int .i64 sn)) (HB.out.p.set_ 0 (.int .i64 sn)) (by decide) 1 (.slice A9 is.length c9)⟩
          replace HB : Hid (BlkF ((wa29.setCell ⟨b14, 0, none⟩ (.int .i64 sn)).setCell ⟨b14, 1, none⟩ (.slice A9 is.length c9)) b14 24 #[.int .i64 sn, .slice A9 is.length c9]) := ⟨(HB.out.p.set_ 0 (.int .i64 sn)).set_ 1 (.slice A9 is.length c9)⟩
          clear hb14
          (refine hK.out _ _ (fun _ _ => HCL.out _ LS.out) (fun _ _ => trivial) ?_; clear hK K; try simp only [Act.put, List.setIfInBounds_toArray, List.set_cons_zero, List.set_cons_succ])
          refine wpTri_done ?_
          generalize (wa29.setCell ⟨b14, 0, none⟩ (.int .i64 sn)).setCell ⟨b14, 1, none⟩ (.slice A9 is.length c9) = wT at LS H9 HB ⊢
          have HI : Hid (PrsF wT A9 is) := ⟨Prs.of_vals (Vals.of_own H9.out.p)⟩
          have HH : Hid (PrsF wT Y hs) := ⟨(HHS.out.p.below LS.out.b).more LS.out.size⟩
          have HY : Hid (BlkF wT (w1.heap.size + 1) 24 #[.int .i64 sn, .slice Y zs.length c2]) := ⟨HYS.out.p.below LS.out.b HYS.out.p.lt⟩
          have HLW : Hid (Low w wT) := ⟨below2 HLS.out.b HLS.out.size LS.out.b⟩
          clear LS H9 HBN
          go_wp2_with fail
          refine (awake1_any _).mono ?_
          rintro e w8 ⟨rfl, hb⟩
          replace HI := Lib.hid (HI.out.step hb); replace HH := Lib.hid (HH.out.step hb); replace HY := Lib.hid (HY.out.step hb); replace HB := Lib.hid (HB.out.step hb); replace HLW := Lib.hid (HLW.out.step hb)
          clear hb
          have y0 := HY.out.cell 0
          have y1 := HY.out.cell 1
          go_wp2_with fail
          refine (lsame_at sn hs zs.length hsl.out 2 4 3 Y c2 _ HHOK.out (by omega) (by omega) (by omega) hc2 HH.out.p).mono ?_
          rintro e w9 ⟨rfl, hb⟩
          replace HI := Lib.hid (HI.out.step hb); replace HB := Lib.hid (HB.out.step hb); replace HLW := Lib.hid (HLW.out.step hb)
          clear hb y0 y1
          have y0 := HB.out.cell 0
          have y1 := HB.out.cell 1
          go_wp2_with fail
          refine (lsame_at sn is is.length rfl 2 4 3 A9 c9 _ HIOK.out (by omega) (by omega) (by omega) hc9 HI.out.p).mono ?_
          rintro e w10 ⟨rfl, hb⟩
          replace HLW := Lib.hid (HLW.out.step hb)
          go_wp2_with fail
          go_ret
          exact ⟨rfl, HLW.out.b⟩
        · skip
          (refine fixW_of rfl ?_; intro o ho; simp only [List.getElem?_toArray, List.getElem?_cons_zero, List.getElem?_cons_succ, Option.some.injEq] at ho; subst ho; intro K hK)
          go_simp
          have hsz0 := LS.out.size
          have HB : Hid (BlkF (wa27.alloc (.cells #[.int .i64 0, .slice none 0 0] 24)) wa27.heap.size 24 #[.int .i64 0, .slice none 0 0]) := ⟨Blk.new _ _ _⟩
          replace LS := Lib.hid (LS.out.step (stepA wa27 (.cells #[.int .i64 0, .slice none 0 0] 24))); replace H4 := Lib.hid (H4.out.step (stepA wa27 (.cells #[.int .i64 0, .slice none 0 0] 24))); replace HV := Lib.hid (HV.out.step (stepA wa27 (.cells #[.int .i64 0, .slice none 0 0] 24)))
          (refine hK.out _ _ (fun _ _ => HCL.out _ LS.out) (fun _ _ => trivial) ?_; clear hK K; try simp only [Act.put, List.setIfInBounds_toArray, List.set_cons_zero, List.set_cons_succ])
          generalize wa27.alloc (.cells #[.int .i64 0, .slice none 0 0] 24) = wa30 at HB LS H4 HV ⊢
          generalize hb14 : wa27.heap.size = b14 at HB ⊢
          have HBN : Hid (wS.heap.size ≤ b14) := by rw [← hb14]; exact hsz0
          clear hb14 hsz0
          (refine wpTri_fix rfl rfl rfl ?_; intro o ho; simp only [List.getElem?_toArray, List.getElem?_cons_zero, List.getElem?_cons_succ, Option.some.injEq] at ho; subst ho; intro K hK)
          refine step_append_prs rfl (.tmp 52) (.tmp 56) rfl wS.heap.size zs (.slice A4 zs.length c4) rfl H4.out.p wa30.heap.size (some ⟨g8, 0, none⟩) 1 [(x, y)] rfl HV.out.p (by simp; omega) LS.out.size is his.out ?_
          intro A9 c9 wa31 H9 hc9 HG
          replace HB : Hid (BlkF _ _ _ _) := ⟨HB.out.p.by_ HG.out (own_ne H4.out.p HB.out.p (by decide))⟩
          replace LS := Lib.hid (LS.out.grown HG.out (own_block H4.out.p))
          clear HG HV H4
          (refine hK.out _ _ (fun _ _ => HCL.out _ LS.out) (fun _ _ => trivial) ?_; clear hK K; try simp only [Act.put, List.setIfInBounds_toArray, List.set_cons_zero, List.set_cons_succ])
          (refine wpTri_mov rfl rfl ?_; intro o ho; simp only [List.getElem?_toArray, List.getElem?_cons_zero, List.getElem?_cons_succ, Option.some.injEq] at ho; subst ho; refine ⟨?_, Or.inl ⟨by rfl, fun W hSW => ?_⟩, ?_⟩; rotate_left; (focus (go_simp; first | done | with_reducible rfl)); try simp only [Act.put, List.setIfInBounds_toArray, List.set_cons_zero, List.set_cons_succ])
          have d0 := HB.out.cell 0
          have d1 := HB.out.cell 1
          have f0 := HB.out.p.frozen 0
          have f1 := HB.out.p.frozen 1
          (refine wpTri_fix rfl rfl rfl ?_; intro o ho; simp only [List.getElem?_toArray, List.getElem?_cons_zero, List.getElem?_cons_succ, Option.some.injEq] at ho; subst ho; intro K hK)
          go_simp
          clear d0 d1 f0 f1
          have hb14 := HBN.out
          replace LS : Hid (Low wS ((wa31.setCell ⟨b14, 0, none⟩ (.int .i64 sn)).setCell ⟨b14, 1, none⟩ (.slice A9 is.length c9))) := ⟨(LS.out.b.setCell (p := ⟨b14, 0, none⟩) hb14 (.int .i64 sn)).setCell (p := ⟨b14, 1, none⟩) hb14 (.slice A9 is.length c9)⟩
          replace H9 : Hid (OwnF ((wa31.setCell ⟨b14, 0, none⟩ (.int .i64 sn)).setCell ⟨b14, 1, none⟩ (.slice A9 is.length c9)) _ _ _ _ _ _) := ⟨own_set (own_set H9.out.p HB.out.p (by decide) 0 (.int .i64 sn)) (HB.out.p.set_ 0 (.int .i64 sn)) (by decide) 1 (.slice A9 is.length c9)⟩
          replace HB : Hid (BlkF ((wa31.setCell ⟨b14, 0, none⟩ (.int .i64 sn)).setCell ⟨b14, 1, none⟩ (.slice A9 is.length c9)) b14 24 #[.int .i64 sn, .slice A9 is.length c9]) := ⟨(HB.out.p.set_ 0 (.int .i64 sn)).set_ 1 (.slice A9 is.length c9)⟩
          clear hb14
          (refine hK.out _ _ (fun _ _ => HCL.out _ LS.out) (fun _ _ => trivial) ?_; clear hK K; try simp only [Act.put, List.setIfInBounds_toArray, List.set_cons_zero, List.set_cons_succ])
          refine wpTri_done ?_
          generalize (wa31.setCell ⟨b14, 0, none⟩ (.int .i64 sn)).setCell ⟨b14, 1, none⟩ (.slice A9 is.length c9) = wT at LS H9 HB ⊢
          have HI : Hid (PrsF wT A9 is) := ⟨Prs.of_vals (Vals.of_own H9.out.p)⟩
          have HH : Hid (PrsF wT Y hs) := ⟨(HHS.out.p.below LS.out.b).more LS.out.size⟩
          have HY : Hid (BlkF wT (w1.heap.size + 1) 24 #[.int .i64 sn, .slice Y zs.length c2]) := ⟨HYS.out.p.below LS.out.b HYS.out.p.lt⟩
          have HLW : Hid (Low w wT) := ⟨below2 HLS.out.b HLS.out.size LS.out.b⟩
          clear LS H9 HBN
          go_wp2_with fail
          refine (awake1_any _).mono ?_
          rintro e w8 ⟨rfl, hb⟩
          replace HI := Lib.hid (HI.out.step hb); replace HH := Lib.hid (HH.out.step hb); replace HY := Lib.hid (HY.out.step hb); replace HB := Lib.hid (HB.out.step hb); replace HLW := Lib.hid (HLW.out.step hb)
          clear hb
          have y0 := HY.out.cell 0
          have y1 := HY.out.cell 1
          go_wp2_with fail
          refine (lsame_at sn hs zs.length hsl.out 2 4 3 Y c2 _ HHOK.out (by omega) (by omega) (by omega) hc2 HH.out.p).mono ?_
          rintro e w9 ⟨rfl, hb⟩
          replace HI := Lib.hid (HI.out.step hb); replace HB := Lib.hid (HB.out.step hb); replace HLW := Lib.hid (HLW.out.step hb)
          clear hb y0 y1
          have y0 := HB.out.cell 0
          have y1 := HB.out.cell 1
          go_wp2_with fail
          refine (lsame_at sn is is.length rfl 2 4 3 A9 c9 _ HIOK.out (by omega) (by omega) (by omega) hc9 HI.out.p).mono ?_
          rintro e w10 ⟨rfl, hb⟩
          replace HLW := Lib.hid (HLW.out.step hb)
          go_wp2_with fail
          go_ret
          exact ⟨rfl, HLW.out.b⟩
      · skip
        (refine fixW_of rfl ?_; intro o ho; simp only [List.getElem?_toArray, List.getElem?_cons_zero, List.getElem?_cons_succ, Option.some.injEq] at ho; subst ho; intro K hK)
        go_simp
        have hsz0 := LS.out.size
        have HB : Hid (BlkF (wa26.alloc (.cells #[.int .i64 0, .slice none 0 0] 24)) wa26.heap.size 24 #[.int .i64 0, .slice none 0 0]) := ⟨Blk.new _ _ _⟩
        replace LS := Lib.hid (LS.out.step (stepA wa26 (.cells #[.int .i64 0, .slice none 0 0] 24))); replace H4 := Lib.hid (H4.out.step (stepA wa26 (.cells #[.int .i64 0, .slice none 0 0] 24)))
        (refine hK.out _ _ (fun _ _ => HCL.out _ LS.out) (fun _ _ => trivial) ?_; clear hK K; try simp only [Act.put, List.setIfInBounds_toArray, List.set_cons_zero, List.set_cons_succ])
        generalize wa26.alloc (.cells #[.int .i64 0, .slice none 0 0] 24) = wa32 at HB LS H4 ⊢
        generalize hb14 : wa26.heap.size = b14 at HB ⊢
        have HBN : Hid (wS.heap.size ≤ b14) := by rw [← hb14]; exact hsz0
        clear hb14 hsz0
        (refine wpTri_fix rfl rfl rfl ?_; intro o ho; simp only [List.getElem?_toArray, List.getElem?_cons_zero, List.getElem?_cons_succ, Option.some.injEq] at ho; subst ho; intro K hK)
        go_simp
        have HV : Hid (PrsF (wa32.alloc (.cells #[.int .i64 x, .int .i64 y] 41)) (some ⟨wa32.heap.size, 0, none⟩) [(x, y)]) := ⟨Prs.of_vals (ps := [(x, y)]) (vals_new' wa32 [.int .i64 x, .int .i64 y] 41)⟩
        replace LS := Lib.hid (LS.out.step (stepA wa32 (.cells #[.int .i64 x, .int .i64 y] 41))); replace H4 := Lib.hid (H4.out.step (stepA wa32 (.cells #[.int .i64 x, .int .i64 y] 41))); replace HB := Lib.hid (HB.out.step (stepA wa32 (.cells #[.int .i64 x, .int .i64 y] 41)))
        (refine hK.out _ _ (fun _ _ => HCL.out _ LS.out) (fun _ _ => trivial) ?_; clear hK K; try simp only [Act.put, List.setIfInBounds_toArray, List.set_cons_zero, List.set_cons_succ])
        generalize wa32.alloc (.cells #[.int .i64 x, .int .i64 y] 41) = wa33 at HV LS H4 HB ⊢
        generalize wa32.heap.size = g8 at HV ⊢
        (refine wpTri_fix rfl rfl rfl ?_; intro o ho; simp only [List.getElem?_toArray, List.getElem?_cons_zero, List.getElem?_cons_succ, Option.some.injEq] at ho; subst ho; intro K hK)
        refine step_append_prs rfl (.tmp 52) (.tmp 56) rfl wS.heap.size zs (.slice A4 zs.length c4) rfl H4.out.p wa33.heap.size (some ⟨g8, 0, none⟩) 1 [(x, y)] rfl HV.out.p (by simp; omega) LS.out.size is his.out ?_
        intro A9 c9 wa34 H9 hc9 HG
        replace HB : Hid (BlkF _ _ _ _) := ⟨HB.out.p.by_ HG.out (own_ne H4.out.p HB.out.p (by decide))⟩
        replace LS := Lib.hid (LS.out.grown HG.out (own_block H4.out.p))
        clear HG HV H4
        (refine hK.out _ _ (fun _ _ => HCL.out _ LS.out) (fun _ _ => trivial) ?_; clear hK K; try simp only [Act.put, List.setIfInBounds_toArray, List.set_cons_zero, List.set_cons_succ])
        (refine wpTri_mov rfl rfl ?_; intro o ho; simp only [List.getElem?_toArray, List.getElem?_cons_zero, List.getElem?_cons_succ, Option.some.injEq] at ho; subst ho; refine ⟨?_, Or.inl ⟨by rfl, fun W hSW => ?_⟩, ?_⟩; rotate_left; (focus (go_simp; first | done | with_reducible rfl)); try simp only [Act.put, List.setIfInBounds_toArray, List.set_cons_zero, List.set_cons_succ])
        have d0 := HB.out.cell 0
        have d1 := HB.out.cell 1
        have f0 := HB.out.p.frozen 0
        have f1 := HB.out.p.frozen 1
        (refine wpTri_fix rfl rfl rfl ?_; intro o ho; simp only [List.getElem?_toArray, List.getElem?_cons_zero, List.getElem?_cons_succ, Option.some.injEq] at ho; subst ho; intro K hK)
        go_simp
        clear d0 d1 f0 f1
        have hb14 := HBN.out
        replace LS : Hid (Low wS ((wa34.setCell ⟨b14, 0, none⟩ (.int .i64 sn)).setCell ⟨b14, 1, none⟩ (.slice A9 is.length c9))) := ⟨(LS.out.b.setCell (p := ⟨b14, 0, none⟩) hb14 (.int .i64 sn)).setCell (p := ⟨b14, 1, none⟩) hb14 (.slice A9 is.length c9)⟩
        replace H9 : Hid (OwnF ((wa34.setCell ⟨b14, 0, none⟩ (.int .i64 sn)).setCell ⟨b14, 1, none⟩ (.slice A9 is.length c9)) _ _ _ _ _ _) := ⟨own_set (own_set H9.out.p HB.out.p (by decide) 0 (.int .i64 sn)) (HB.out.p.set_ 0 (.int .i64 sn)) (by decide) 1 (.slice A9 is.length c9)⟩
        replace HB : Hid (BlkF ((wa34.setCell ⟨b14, 0, none⟩ (.int .i64 sn)).setCell ⟨b14, 1, none⟩ (.slice A9 is.length c9)) b14 24 #[.int .i64 sn, .slice A9 is.length c9]) := ⟨(HB.out.p.set_ 0 (.int .i64 sn)).set_ 1 (.slice A9 is.length c9)⟩
        clear hb14
        (refine hK.out _ _ (fun _ _ => HCL.out _ LS.out) (fun _ _ => trivial) ?_; clear hK K; try simp only [Act.put, List.setIfInBounds_toArray, List.set_cons_zero, List.set_cons_succ])
        refine wpTri_done ?_
        generalize (wa34.setCell ⟨b14, 0, none⟩ (.int .i64 sn)).setCell ⟨b14, 1, none⟩ (.slice A9 is.length c9) = wT at LS H9 HB ⊢
        have HI : Hid (PrsF wT A9 is) := ⟨Prs.of_vals (Vals.of_own H9.out.p)⟩
        have HH : Hid (PrsF wT Y hs) := ⟨(HHS.out.p.below LS.out.b).more LS.out.size⟩
        have HY : Hid (BlkF wT (w1.heap.size + 1) 24 #[.int .i64 sn, .slice Y zs.length c2]) := ⟨HYS.out.p.below LS.out.b HYS.out.p.lt⟩
        have HLW : Hid (Low w wT) := ⟨below2 HLS.out.b HLS.out.size LS.out.b⟩
        clear LS H9 HBN
        go_wp2_with fail
        refine (awake1_any _).mono ?_
        rintro e w8 ⟨rfl, hb⟩
        replace HI := Lib.hid (HI.out.step hb); replace HH := Lib.hid (HH.out.step hb); replace HY := Lib.hid (HY.out.step hb); replace HB := Lib.hid (HB.out.step hb); replace HLW := Lib.hid (HLW.out.step hb)
        clear hb
        have y0 := HY.out.cell 0
        have y1 := HY.out.cell 1
        go_wp2_with fail
        refine (lsame_at sn hs zs.length hsl.out 2 4 3 Y c2 _ HHOK.out (by omega) (by omega) (by omega) hc2 HH.out.p).mono ?_
        rintro e w9 ⟨rfl, hb⟩
        replace HI := Lib.hid (HI.out.step hb); replace HB := Lib.hid (HB.out.step hb); replace HLW := Lib.hid (HLW.out.step hb)
        clear hb y0 y1
        have y0 := HB.out.cell 0
        have y1 := HB.out.cell 1
        go_wp2_with fail
        refine (lsame_at sn is is.length rfl 2 4 3 A9 c9 _ HIOK.out (by omega) (by omega) (by omega) hc9 HI.out.p).mono ?_
        rintro e w10 ⟨rfl, hb⟩
        replace HLW := Lib.hid (HLW.out.step hb)
        go_wp2_with fail
        go_ret
        exact ⟨rfl, HLW.out.b⟩
    · skip
      (refine fixW_of rfl ?_; intro o ho; simp only [List.getElem?_toArray, List.getElem?_cons_zero, List.getElem?_cons_succ, Option.some.injEq] at ho; subst ho; intro K hK)
      go_simp
      have HV : Hid (PrsF (wS.alloc (.cells #[.int .i64 x, .int .i64 y] 41)) (some ⟨wS.heap.size, 0, none⟩) [(x, y)]) := ⟨Prs.of_vals (ps := [(x, y)]) (vals_new' wS [.int .i64 x, .int .i64 y] 41)⟩
      replace LS := Lib.hid (LS.out.step (stepA wS (.cells #[.int .i64 x, .int .i64 y] 41)))
      (refine hK.out _ _ (fun _ _ => HCL.out _ LS.out) (fun _ _ => trivial) ?_; clear hK K; try simp only [Act.put, List.setIfInBounds_toArray, List.set_cons_zero, List.set_cons_succ])
      generalize wS.alloc (.cells #[.int .i64 x, .int .i64 y] 41) = wa35 at HV LS ⊢
      generalize wS.heap.size = g8 at HV ⊢
      refine wpTri_fork ?_ ?_
      · skip
        (refine fixW_of rfl ?_; intro o ho; simp only [List.getElem?_toArray, List.getElem?_cons_zero, List.getElem?_cons_succ, Option.some.injEq] at ho; subst ho; intro K hK)
        refine step_append_prs rfl (.const (.slice none 0 0)) (.tmp 51) rfl wS.heap.size [] (.slice none 0 0) rfl (own_nil _ _ _ _) wS.heap.size B d zs rfl (HBS.out.p.below LS.out.b) (by simp; omega) LS.out.size zs rfl ?_
        intro A4 c4 wa36 H4 hc4 HG
        have hb := grown_nil HG.out
        replace LS := Lib.hid (LS.out.step hb); replace HV := Lib.hid (HV.out.step hb)
        clear hb HG hc4
        (refine hK.out _ _ (fun _ _ => HCL.out _ LS.out) (fun _ _ => trivial) ?_; clear hK K; try simp only [Act.put, List.setIfInBounds_toArray, List.set_cons_zero, List.set_cons_succ])
        refine wpTri_fork ?_ ?_
        · skip
          (refine fixW_of rfl ?_; intro o ho; simp only [List.getElem?_toArray, List.getElem?_cons_zero, List.getElem?_cons_succ, Option.some.injEq] at ho; subst ho; intro K hK)
          refine step_append_prs rfl (.tmp 52) (.tmp 56) rfl wS.heap.size zs (.slice A4 zs.length c4) rfl H4.out.p wa36.heap.size (some ⟨g8, 0, none⟩) 1 [(x, y)] rfl HV.out.p (by simp; omega) LS.out.size is his.out ?_
          intro A9 c9 wa37 H9 hc9 HG
          replace LS := Lib.hid (LS.out.grown HG.out (own_block H4.out.p))
          clear HG HV H4
          (refine hK.out _ _ (fun _ _ => HCL.out _ LS.out) (fun _ _ => trivial) ?_; clear hK K; try simp only [Act.put, List.setIfInBounds_toArray, List.set_cons_zero, List.set_cons_succ])
          (refine wpTri_mov rfl rfl ?_; intro o ho; simp only [List.getElem?_toArray, List.getElem?_cons_zero, List.getElem?_cons_succ, Option.some.injEq] at ho; subst ho; refine ⟨?_, Or.inl ⟨by rfl, fun W hSW => ?_⟩, ?_⟩; rotate_left; (focus (go_simp; first | done | with_reducible rfl)); try simp only [Act.put, List.setIfInBounds_toArray, List.set_cons_zero, List.set_cons_succ])
          (refine wpTri_fix rfl rfl rfl ?_; intro o ho; simp only [List.getElem?_toArray, List.getElem?_cons_zero, List.getElem?_cons_succ, Option.some.injEq] at ho; subst ho; intro K hK)
          go_simp
          have hsz0 := LS.out.size
          have HB : Hid (BlkF (wa37.alloc (.cells #[.int .i64 0, .slice none 0 0] 24)) wa37.heap.size 24 #[.int .i64 0, .slice none 0 0]) := ⟨Blk.new _ _ _⟩
          replace LS := Lib.hid (LS.out.step (stepA wa37 (.cells #[.int .i64 0, .slice none 0 0] 24))); replace H9 := Lib.hid (H9.out.step (stepA wa37 (.cells #[.int .i64 0, .slice none 0 0] 24)))
          (refine hK.out _ _ (fun _ _ => HCL.out _ LS.out) (fun _ _ => trivial) ?_; clear hK K; try simp only [Act.put, List.setIfInBounds_toArray, List.set_cons_zero, List.set_cons_succ])
          generalize wa37.alloc (.cells #[.int .i64 0, .slice none 0 0] 24) = wa38 at HB LS H9 ⊢
          generalize hb14 : wa37.heap.size = b14 at HB ⊢
          have HBN : Hid (wS.heap.size ≤ b14) := by rw [← hb14]; exact hsz0
          clear hb14 hsz0
          have d0 := HB.out.cell 0
          have d1 := HB.out.cell 1
          have f0 := HB.out.p.frozen 0
          have f1 := HB.out.p.frozen 1
          (refine wpTri_fix rfl rfl rfl ?_; intro o ho; simp only [List.getElem?_toArray, List.getElem?_cons_zero, List.getElem?_cons_succ, Option.some.injEq] at ho; subst ho; intro K hK)
          go_simp
          clear d0 d1 f0 f1
          have hb14 := HBN.out
          replace LS : Hid (Low wS ((wa38.setCell ⟨b14, 0, none⟩ (.int .i64 sn)).setCell ⟨b14, 1, none⟩ (.slice A9 is.length c9))) := ⟨(LS.out.b.setCell (p := ⟨b14, 0, none⟩) hb14 (.int .i64 sn)).setCell (p := ⟨b14, 1, none⟩) hb14 (.slice A9 is.length c9)⟩
          replace H9 : Hid (OwnF ((wa38.setCell ⟨b14, 0, none⟩ (.int .i64 sn)).setCell ⟨b14, 1, none⟩ (.slice A9 is.length c9)) _ _ _ _ _ _) := ⟨own_set (own_set H9.out.p HB.out.p (by decide) 0 (.int .i64 sn)) (HB.out.p.set_ 0 (.int .i64 sn)) (by decide) 1 (.slice A9 is.length c9)⟩
          replace HB : Hid (BlkF ((wa38.setCell ⟨b14, 0, none⟩ (.int .i64 sn)).setCell ⟨b14, 1, none⟩ (.slice A9 is.length c9)) b14 24 #[.int .i64 sn, .slice A9 is.length c9]) := ⟨(HB.out.p.set_ 0 (.int .i64 sn)).set_ 1 (.slice A9 is.length c9)⟩
          clear hb14
          (refine hK.out _ _ (fun _ _ => HCL.out _ LS.out) (fun _ _ => trivial) ?_; clear hK K; try simp only [Act.put, List.setIfInBounds_toArray, List.set_cons_zero, List.set_cons_succ])
          refine wpTri_done ?_
          generalize (wa38.setCell ⟨b14, 0, none⟩ (.int .i64 sn)).setCell ⟨b14, 1, none⟩ (.slice A9 is.length c9) = wT at LS H9 HB ⊢
          have HI : Hid (PrsF wT A9 is) := ⟨Prs.of_vals (Vals.of_own H9.out.p)⟩
          have HH : Hid (PrsF wT Y hs) := ⟨(HHS.out.p.below LS.out.b).more LS.out.size⟩
          have HY : Hid (BlkF wT (w1.heap.size + 1) 24 #[.int .i64 sn, .slice Y zs.length c2]) := ⟨HYS.out.p.below LS.out.b HYS.out.p.lt⟩
          have HLW : Hid (Low w wT) := ⟨below2 HLS.out.b HLS.out.size LS.out.b⟩
          clear LS H9 HBN
          go_wp2_with fail
          refine (awake1_any _).mono ?_
          rintro e w8 ⟨rfl, hb⟩
          replace HI := Lib.hid (HI.out.step hb); replace HH := Lib.hid (HH.out.step hb); replace HY := Lib.hid (HY.out.step hb); replace HB := Lib.hid (HB.out.step hb); replace HLW := Lib.hid (HLW.out.step hb)
          clear hb
          have y0 := HY.out.cell 0
          have y1 := HY.out.cell 1
          go_wp2_with fail
          refine (lsame_at sn hs zs.length hsl.out 2 4 3 Y c2 _ HHOK.out (by omega) (by omega) (by omega) hc2 HH.out.p).mono ?_
          rintro e w9 ⟨rfl, hb⟩
          replace HI := Lib.hid (HI.out.step hb); replace HB := Lib.hid (HB.out.step hb); replace HLW := Lib.hid (HLW.out.step hb)
          clear hb y0 y1
          have y0 := HB.out.cell 0
          have y1 := HB.out.cell 1
          go_wp2_with fail
          refine (lsame_at sn is is.length rfl 2 4 3 A9 c9 _ HIOK.out (by omega) (by omega) (by omega) hc9 HI.out.p).mono ?_
          rintro e w10 ⟨rfl, hb⟩
          replace HLW := Lib.hid (HLW.out.step hb)
          go_wp2_with fail
          go_ret
          exact ⟨rfl, HLW.out.b⟩
        · skip
          (refine fixW_of rfl ?_; intro o ho; simp only [List.getElem?_toArray, List.getElem?_cons_zero, List.getElem?_cons_succ, Option.some.injEq] at ho; subst ho; intro K hK)
          go_simp
          have hsz0 := LS.out.size
          have HB : Hid (BlkF (wa36.alloc (.cells #[.int .i64 0, .slice none 0 0] 24)) wa36.heap.size 24 #[.int .i64 0, .slice none 0 0]) := ⟨Blk.new _ _ _⟩
          replace LS := Lib.hid (LS.out.step (stepA wa36 (.cells #[.int .i64 0, .slice none 0 0] 24))); replace H4 := Lib.hid (H4.out.step (stepA wa36 (.cells #[.int .i64 0, .slice none 0 0] 24))); replace HV := Lib.hid (HV.out.step (stepA wa36 (.cells #[.int .i64 0, .slice none 0 0] 24)))
          (refine hK.out _ _ (fun _ _ => HCL.out _ LS.out) (fun _ _ => trivial) ?_; clear hK K; try simp only [Act.put, List.setIfInBounds_toArray, List.set_cons_zero, List.set_cons_succ])
          generalize wa36.alloc (.cells #[.int .i64 0, .slice none 0 0] 24) = wa39 at HB LS H4 HV ⊢
          generalize hb14 : wa36.heap.size = b14 at HB ⊢
          have HBN : Hid (wS.heap.size ≤ b14) := by rw [← hb14]; exact hsz0
          clear hb14 hsz0
          (refine wpTri_fix rfl rfl rfl ?_; intro o ho; simp only [List.getElem?_toArray, List.getElem?_cons_zero, List.getElem?_cons_succ, Option.some.injEq] at ho; subst ho; intro K hK)
          refine step_append_prs rfl (.tmp 52) (.tmp 56) rfl wS.heap.size zs (.slice A4 zs.length c4) rfl H4.out.p wa39.heap.size (some ⟨g8, 0, none⟩) 1 [(x, y)] rfl HV.out.p (by simp; omega) LS.out.size is his.out ?_
          intro A9 c9 wa40 H9 hc9 HG
          replace HB : Hid (BlkF _ _ _ _) := ⟨HB.out.p.by_ HG.out (own_ne H4.out.p HB.out.p (by decide))⟩
          replace LS := Lib.hid (LS.out.grown HG.out (own_block H4.out.p))
          clear HG HV H4
          (refine hK.out _ _ (fun _ _ => HCL.out _ LS.out) (fun _ _ => trivial) ?_; clear hK K; try simp only [Act.put, List.setIfInBounds_toArray, List.set_cons_zero, List.set_cons_succ])
          (refine wpTri_mov rfl rfl ?_; intro o ho; simp only [List.getElem?_toArray, List.getElem?_cons_zero, List.getElem?_cons_succ, Option.some.injEq] at ho; subst ho; refine ⟨?_, Or.inl ⟨by rfl, fun W hSW => ?_⟩, ?_⟩; rotate_left; (focus (go_simp; first | done | with_reducible rfl)); try simp only [Act.put, List.setIfInBounds_toArray, List.set_cons_zero, List.set_cons_succ])
          have d0 := HB.out.cell 0
          have d1 := HB.out.cell 1
          have f0 := HB.out.p.frozen 0
          have f1 := HB.out.p.frozen 1
          (refine wpTri_fix rfl rfl rfl ?_; intro o ho; simp only [List.getElem?_toArray, List.getElem?_cons_zero, List.getElem?_cons_succ, Option.some.injEq] at ho; subst ho; intro K hK)
          go_simp
          clear d0 d1 f0 f1
          have hb14 := HBN.out
          replace LS : Hid (Low wS ((wa40.setCell ⟨b14, 0, none⟩ (.int .i64 sn)).setCell ⟨b14, 1, none⟩ (.slice A9 is.length c9))) := ⟨(LS.out.b.setCell (p := ⟨b14, 0, none⟩) hb14 (.int .i64 sn)).setCell (p := ⟨b14, 1, none⟩) hb14 (.slice A9 is.length c9)⟩
          replace H9 : Hid (OwnF ((wa40.setCell ⟨b14, 0, none⟩ (.int .i64 sn)).setCell ⟨b14, 1, none⟩ (.slice A9 is.length c9)) _ _ _ _ _ _) := ⟨own_set (own_set H9.out.p HB.out.p (by decide) 0 (.int .i64 sn)) (HB.out.p.set_ 0 (.int .i64 sn)) (by decide) 1 (.slice A9 is.length c9)⟩
          replace HB : Hid (BlkF ((wa40.setCell ⟨b14, 0, none⟩ (.int .i64 sn)).setCell ⟨b14, 1, none⟩ (.slice A9 is.length c9)) b14 24 #[.int .i64 sn, .slice A9 is.length c9]) := ⟨(HB.out.p.set_ 0 (.int .i64 sn)).set_ 1 (.slice A9 is.length c9)⟩
          clear hb14
          (refine hK.out _ _ (fun _ _ => HCL.out _ LS.out) (fun _ _ => trivial) ?_; clear hK K; try simp only [Act.put, List.setIfInBounds_toArray, List.set_cons_zero, List.set_cons_succ])
          refine wpTri_done ?_
          generalize (wa40.setCell ⟨b14, 0, none⟩ (.int .i64 sn)).setCell ⟨b14, 1, none⟩ (.slice A9 is.length c9) = wT at LS H9 HB ⊢
          have HI : Hid (PrsF wT A9 is) := ⟨Prs.of_vals (Vals.of_own H9.out.p)⟩
          have HH : Hid (PrsF wT Y hs) := ⟨(HHS.out.p.below LS.out.b).more LS.out.size⟩
          have HY : Hid (BlkF wT (w1.heap.size + 1) 24 #[.int .i64 sn, .slice Y zs.length c2]) := ⟨HYS.out.p.below LS.out.b HYS.out.p.lt⟩
          have HLW : Hid (Low w wT) := ⟨below2 HLS.out.b HLS.out.size LS.out.b⟩
          clear LS H9 HBN
          go_wp2_with fail
          refine (awake1_any _).mono ?_
          rintro e w8 ⟨rfl, hb⟩
          replace HI := Lib.hid (HI.out.step hb); replace HH := Lib.hid (HH.out.step hb); replace HY := Lib.hid (HY.out.step hb); replace HB := Lib.hid (HB.out.step hb); replace HLW := Lib.hid (HLW.out.step hb)
          clear hb
          have y0 := HY.out.cell 0
          have y1 := HY.out.cell 1
          go_wp2_with fail
          refine (lsame_at sn hs zs.length hsl.out 2 4 3 Y c2 _ HHOK.out (by omega) (by omega) (by omega) hc2 HH.out.p).mono ?_
          rintro e w9 ⟨rfl, hb⟩
          replace HI := Lib.hid (HI.out.step hb); replace HB := Lib.hid (HB.out.step hb); replace HLW := Lib.hid (HLW.out.step hb)
          clear hb y0 y1
          have y0 := HB.out.cell 0
          have y1 := HB.out.cell 1
          go_wp2_with fail
          refine (lsame_at sn is is.length rfl 2 4 3 A9 c9 _ HIOK.out (by omega) (by omega) (by omega) hc9 HI.out.p).mono ?_
          rintro e w10 ⟨rfl, hb⟩
          replace HLW := Lib.hid (HLW.out.step hb)
          go_wp2_with fail
          go_ret
          exact ⟨rfl, HLW.out.b⟩
      · skip
        (refine fixW_of rfl ?_; intro o ho; simp only [List.getElem?_toArray, List.getElem?_cons_zero, List.getElem?_cons_succ, Option.some.injEq] at ho; subst ho; intro K hK)
        go_simp
        have hsz0 := LS.out.size
        have HB : Hid (BlkF (wa35.alloc (.cells #[.int .i64 0, .slice none 0 0] 24)) wa35.heap.size 24 #[.int .i64 0, .slice none 0 0]) := ⟨Blk.new _ _ _⟩
        replace LS := Lib.hid (LS.out.step (stepA wa35 (.cells #[.int .i64 0, .slice none 0 0] 24))); replace HV := Lib.hid (HV.out.step (stepA wa35 (.cells #[.int .i64 0, .slice none 0 0] 24)))
        (refine hK.out _ _ (fun _ _ => HCL.out _ LS.out) (fun _ _ => trivial) ?_; clear hK K; try simp only [Act.put, List.setIfInBounds_toArray, List.set_cons_zero, List.set_cons_succ])
        generalize wa35.alloc (.cells #[.int .i64 0, .slice none 0 0] 24) = wa41 at HB LS HV ⊢
        generalize hb14 : wa35.heap.size = b14 at HB ⊢
        have HBN : Hid (wS.heap.size ≤ b14) := by rw [← hb14]; exact hsz0
        clear hb14 hsz0
        (refine wpTri_fix rfl rfl rfl ?_; intro o ho; simp only [List.getElem?_toArray, List.getElem?_cons_zero, List.getElem?_cons_succ, Option.some.injEq] at ho; subst ho; intro K hK)
        refine step_append_prs rfl (.const (.slice none 0 0)) (.tmp 51) rfl wS.heap.size [] (.slice none 0 0) rfl (own_nil _ _ _ _) wS.heap.size B d zs rfl (HBS.out.p.below LS.out.b) (by simp; omega) LS.out.size zs rfl ?_
        intro A4 c4 wa42 H4 hc4 HG
        have hb := grown_nil HG.out
        replace LS := Lib.hid (LS.out.step hb); replace HV := Lib.hid (HV.out.step hb); replace HB := Lib.hid (HB.out.step hb)
        clear hb HG hc4
        (refine hK.out _ _ (fun _ _ => HCL.out _ LS.out) (fun _ _ => trivial) ?_; clear hK K; try simp only [Act.put, List.setIfInBounds_toArray, List.set_cons_zero, List.set_cons_succ])
        (refine wpTri_fix rfl rfl rfl ?_; intro o ho; simp only [List.getElem?_toArray, List.getElem?_cons_zero, List.getElem?_cons_succ, Option.some.injEq] at ho; subst ho; intro K hK)
        refine step_append_prs rfl (.tmp 52) (.tmp 56) rfl wS.heap.size zs (.slice A4 zs.length c4) rfl H4.out.p wa42.heap.size (some ⟨g8, 0, none⟩) 1 [(x, y)] rfl HV.out.p (by simp; omega) LS.out.size is his.out ?_
        intro A9 c9 wa43 H9 hc9 HG
        replace HB : Hid (BlkF _ _ _ _) := ⟨HB.out.p.by_ HG.out (own_ne H4.out.p HB.out.p (by decide))⟩
        replace LS := Lib.hid (LS.out.grown HG.out (own_block H4.out.p))
        clear HG HV H4
        (refine hK.out _ _ (fun _ _ => HCL.out _ LS.out) (fun _ _ => trivial) ?_; clear hK K; try simp only [Act.put, List.setIfInBounds_toArray, List.set_cons_zero, List.set_cons_succ])
        (refine wpTri_mov rfl rfl ?_; intro o ho; simp only [List.getElem?_toArray, List.getElem?_cons_zero, List.getElem?_cons_succ, Option.some.injEq] at ho; subst ho; refine ⟨?_, Or.inl ⟨by rfl, fun W hSW => ?_⟩, ?_⟩; rotate_left; (focus (go_simp; first | done | with_reducible rfl)); try simp only [Act.put, List.setIfInBounds_toArray, List.set_cons_zero, List.set_cons_succ])
        have d0 := HB.out.cell 0
        have d1 := HB.out.cell 1
        have f0 := HB.out.p.frozen 0
        have f1 := HB.out.p.frozen 1
        (refine wpTri_fix rfl rfl rfl ?_; intro o ho; simp only [List.getElem?_toArray, List.getElem?_cons_zero, List.getElem?_cons_succ, Option.some.injEq] at ho; subst ho; intro K hK)
        go_simp
        clear d0 d1 f0 f1
        have hb14 := HBN.out
        replace LS : Hid (Low wS ((wa43.setCell ⟨b14, 0, none⟩ (.int .i64 sn)).setCell ⟨b14, 1, none⟩ (.slice A9 is.length c9))) := ⟨(LS.out.b.setCell (p := ⟨b14, 0, none⟩) hb14 (.int .i64 sn)).setCell (p := ⟨b14, 1, none⟩) hb14 (.slice A9 is.length c9)⟩
        replace H9 : Hid (OwnF ((wa43.setCell ⟨b14, 0, none⟩ (.int .i64 sn)).setCell ⟨b14, 1, none⟩ (.slice A9 is.length c9)) _ _ _ _ _ _) := ⟨own_set (own_set H9.out.p HB.out.p (by decide) 0 (.int .i64 sn)) (HB.out.p.set_ 0 (.int .i64 sn)) (by decide) 1 (.slice A9 is.length c9)⟩
        replace HB : Hid (BlkF ((wa43.setCell ⟨b14, 0, none⟩ (.int .i64 sn)).setCell ⟨b14, 1, none⟩ (.slice A9 is.length c9)) b14 24 #[.int .i64 sn, .slice A9 is.length c9]) := ⟨(HB.out.p.set_ 0 (.int .i64 sn)).set_ 1 (.slice A9 is.length c9)⟩
        clear hb14
        (refine hK.out _ _ (fun _ _ => HCL.out _ LS.out) (fun _ _ => trivial) ?_; clear hK K; try simp only [Act.put, List.setIfInBounds_toArray, List.set_cons_zero, List.set_cons_succ])
        refine wpTri_done ?_
        generalize (wa43.setCell ⟨b14, 0, none⟩ (.int .i64 sn)).setCell ⟨b14, 1, none⟩ (.slice A9 is.length c9) = wT at LS H9 HB ⊢
        have HI : Hid (PrsF wT A9 is) := ⟨Prs.of_vals (Vals.of_own H9.out.p)⟩
        have HH : Hid (PrsF wT Y hs) := ⟨(HHS.out.p.below LS.out.b).more LS.out.size⟩
        have HY : Hid (BlkF wT (w1.heap.size + 1) 24 #[.int .i64 sn, .slice Y zs.length c2]) := ⟨HYS.out.p.below LS.out.b HYS.out.p.lt⟩
        have HLW : Hid (Low w wT) := ⟨below2 HLS.out.b HLS.out.size LS.out.b⟩
        clear LS H9 HBN
        go_wp2_with fail
        refine (awake1_any _).mono ?_
        rintro e w8 ⟨rfl, hb⟩
        replace HI := Lib.hid (HI.out.step hb); replace HH := Lib.hid (HH.out.step hb); replace HY := Lib.hid (HY.out.step hb); replace HB := Lib.hid (HB.out.step hb); replace HLW := Lib.hid (HLW.out.step hb)
        clear hb
        have y0 := HY.out.cell 0
        have y1 := HY.out.cell 1
        go_wp2_with fail
        refine (lsame_at sn hs zs.length hsl.out 2 4 3 Y c2 _ HHOK.out (by omega) (by omega) (by omega) hc2 HH.out.p).mono ?_
        rintro e w9 ⟨rfl, hb⟩
        replace HI := Lib.hid (HI.out.step hb); replace HB := Lib.hid (HB.out.step hb); replace HLW := Lib.hid (HLW.out.step hb)
        clear hb y0 y1
        have y0 := HB.out.cell 0
        have y1 := HB.out.cell 1
        go_wp2_with fail
        refine (lsame_at sn is is.length rfl 2 4 3 A9 c9 _ HIOK.out (by omega) (by omega) (by omega) hc9 HI.out.p).mono ?_
        rintro e w10 ⟨rfl, hb⟩
        replace HLW := Lib.hid (HLW.out.step hb)
        go_wp2_with fail
        go_ret
        exact ⟨rfl, HLW.out.b⟩
    · skip
      (refine fixW_of rfl ?_; intro o ho; simp only [List.getElem?_toArray, List.getElem?_cons_zero, List.getElem?_cons_succ, Option.some.injEq] at ho; subst ho; intro K hK)
      go_simp
      have hsz0 := LS.out.size
      have HB : Hid (BlkF (wS.alloc (.cells #[.int .i64 0, .slice none 0 0] 24)) wS.heap.size 24 #[.int .i64 0, .slice none 0 0]) := ⟨Blk.new _ _ _⟩
      replace LS := Lib.hid (LS.out.step (stepA wS (.cells #[.int .i64 0, .slice none 0 0] 24)))
      (refine hK.out _ _ (fun _ _ => HCL.out _ LS.out) (fun _ _ => trivial) ?_; clear hK K; try simp only [Act.put, List.setIfInBounds_toArray, List.set_cons_zero, List.set_cons_succ])
      generalize wS.alloc (.cells #[.int .i64 0, .slice none 0 0] 24) = wa44 at HB LS ⊢
      generalize hb14 : wS.heap.size = b14 at HB ⊢
      have HBN : Hid (wS.heap.size ≤ b14) := by rw [← hb14]; exact hsz0
      clear hb14 hsz0
      refine wpTri_fork ?_ ?_
      · skip
        (refine fixW_of rfl ?_; intro o ho; simp only [List.getElem?_toArray, List.getElem?_cons_zero, List.getElem?_cons_succ, Option.some.injEq] at ho; subst ho; intro K hK)
        refine step_append_prs rfl (.const (.slice none 0 0)) (.tmp 51) rfl wS.heap.size [] (.slice none 0 0) rfl (own_nil _ _ _ _) wS.heap.size B d zs rfl (HBS.out.p.below LS.out.b) (by simp; omega) LS.out.size zs rfl ?_
        intro A4 c4 wa45 H4 hc4 HG
        have hb := grown_nil HG.out
        replace LS := Lib.hid (LS.out.step hb); replace HB := Lib.hid (HB.out.step hb)
        clear hb HG hc4
        (refine hK.out _ _ (fun _ _ => HCL.out _ LS.out) (fun _ _ => trivial) ?_; clear hK K; try simp only [Act.put, List.setIfInBounds_toArray, List.set_cons_zero, List.set_cons_succ])
        (refine wpTri_fix rfl rfl rfl ?_; intro o ho; simp only [List.getElem?_toArray, List.getElem?_cons_zero, List.getElem?_cons_succ, Option.some.injEq] at ho; subst ho; intro K hK)
        go_simp
        have HV : Hid (PrsF (wa45.alloc (.cells #[.int .i64 x, .int .i64 y] 41)) (some ⟨wa45.heap.size, 0, none⟩) [(x, y)]) := ⟨Prs.of_vals (ps := [(x, y)]) (vals_new' wa45 [.int .i64 x, .int .i64 y] 41)⟩
        replace LS := Lib.hid (LS.out.step (stepA wa45 (.cells #[.int .i64 x, .int .i64 y] 41))); replace H4 := Lib.hid (H4.out.step (stepA wa45 (.cells #[.int .i64 x, .int .i64 y] 41))); replace HB := Lib.hid (HB.out.step (stepA wa45 (.cells #[.int .i64 x, .int .i64 y] 41)))
        (refine hK.out _ _ (fun _ _ => HCL.out _ LS.out) (fun _ _ => trivial) ?_; clear hK K; try simp only [Act.put, List.setIfInBounds_toArray, List.set_cons_zero, List.set_cons_succ])
        generalize wa45.alloc (.cells #[.int .i64 x, .int .i64 y] 41) = wa46 at HV LS H4 HB ⊢
        generalize wa45.heap.size = g8 at HV ⊢
        (refine wpTri_fix rfl rfl rfl ?_; intro o ho; simp only [List.getElem?_toArray, List.getElem?_cons_zero, List.getElem?_cons_succ, Option.some.injEq] at ho; subst ho; intro K hK)
        refine step_append_prs rfl (.tmp 52) (.tmp 56) rfl wS.heap.size zs (.slice A4 zs.length c4) rfl H4.out.p wa46.heap.size (some ⟨g8, 0, none⟩) 1 [(x, y)] rfl HV.out.p (by simp; omega) LS.out.size is his.out ?_
        intro A9 c9 wa47 H9 hc9 HG
        replace HB : Hid (BlkF _ _ _ _) := ⟨HB.out.p.by_ HG.out (own_ne H4.out.p HB.out.p (by decide))⟩
        replace LS := Lib.hid (LS.out.grown HG.out (own_block H4.out.p))
        clear HG HV H4
        (refine hK.out _ _ (fun _ _ => HCL.out _ LS.out) (fun _ _ => trivial) ?_; clear hK K; try simp only [Act.put, List.setIfInBounds_toArray, List.set_cons_zero, List.set_cons_succ])
        (refine wpTri_mov rfl rfl ?_; intro o ho; simp only [List.getElem?_toArray, List.getElem?_cons_zero, List.getElem?_cons_succ, Option.some.injEq] at ho; subst ho; refine ⟨?_, Or.inl ⟨by rfl, fun W hSW => ?_⟩, ?_⟩; rotate_left; (focus (go_simp; first | done | with_reducible rfl)); try simp only [Act.put, List.setIfInBounds_toArray, List.set_cons_zero, List.set_cons_succ])
        have d0 := HB.out.cell 0
        have d1 := HB.out.cell 1
        have f0 := HB.out.p.frozen 0
        have f1 := HB.out.p.frozen 1
        (refine wpTri_fix rfl rfl rfl ?_; intro o ho; simp only [List.getElem?_toArray, List.getElem?_cons_zero, List.getElem?_cons_succ, Option.some.injEq] at ho; subst ho; intro K hK)
        go_simp
        clear d0 d1 f0 f1
        have hb14 := HBN.out
        replace LS : Hid (Low wS ((wa47.setCell ⟨b14, 0, none⟩ (.int .i64 sn)).setCell ⟨b14, 1, none⟩ (.slice A9 is.length c9))) := ⟨(LS.out.b.setCell (p := ⟨b14, 0, none⟩) hb14 (.int .i64 sn)).setCell (p := ⟨b14, 1, none⟩) hb14 (.slice A9 is.length c9)⟩
        replace H9 : Hid (OwnF ((wa47.setCell ⟨b14, 0, none⟩ (.int .i64 sn)).setCell ⟨b14, 1, none⟩ (.slice A9 is.length c9)) _ _ _ _ _ _) := ⟨own_set (own_set H9.out.p HB.out.p (by decide) 0 (.int .i64 sn)) (HB.out.p.set_ 0 (.int .i64 sn)) (by decide) 1 (.slice A9 is.length c9)⟩
        replace HB : Hid (BlkF ((wa47.setCell ⟨b14, 0, none⟩ (.int .i64 sn)).setCell ⟨b14, 1, none⟩ (.slice A9 is.length c9)) b14 24 #[.int .i64 sn, .slice A9 is.length c9]) := ⟨(HB.out.p.set_ 0 (.int .i64 sn)).set_ 1 (.slice A9 is.length c9)⟩
        clear hb14
        (refine hK.out _ _ (fun _ _ => HCL.out _ LS.out) (fun _ _ => trivial) ?_; clear hK K; try simp only [Act.put, List.setIfInBounds_toArray, List.set_cons_zero, List.set_cons_succ])
        refine wpTri_done ?_
        generalize (wa47.setCell ⟨b14, 0, none⟩ (.int .i64 sn)).setCell ⟨b14, 1, none⟩ (.slice A9 is.length c9) = wT at LS H9 HB ⊢
        have HI : Hid (PrsF wT A9 is) := ⟨Prs.of_vals (Vals.of_own H9.out.p)⟩
        have HH : Hid (PrsF wT Y hs) := ⟨(HHS.out.p.below LS.out.b).more LS.out.size⟩
        have HY : Hid (BlkF wT (w1.heap.size + 1) 24 #[.int .i64 sn, .slice Y zs.length c2]) := ⟨HYS.out.p.below LS.out.b HYS.out.p.lt⟩
        have HLW : Hid (Low w wT) := ⟨below2 HLS.out.b HLS.out.size LS.out.b⟩
        clear LS H9 HBN
        go_wp2_with fail
        refine (awake1_any _).mono ?_
        rintro e w8 ⟨rfl, hb⟩
        replace HI := Lib.hid (HI.out.step hb); replace HH := Lib.hid (HH.out.step hb); replace HY := Lib.hid (HY.out.step hb); replace HB := Lib.hid (HB.out.step hb); replace HLW := Lib.hid (HLW.out.step hb)
        clear hb
        have y0 := HY.out.cell 0
        have y1 := HY.out.cell 1
        go_wp2_with fail
        refine (lsame_at sn hs zs.length hsl.out 2 4 3 Y c2 _ HHOK.out (by omega) (by omega) (by omega) hc2 HH.out.p).mono ?_
        rintro e w9 ⟨rfl, hb⟩
        replace HI := Lib.hid (HI.out.step hb); replace HB := Lib.hid (HB.out.step hb); replace HLW := Lib.hid (HLW.out.step hb)
        clear hb y0 y1
        have y0 := HB.out.cell 0
        have y1 := HB.out.cell 1
        go_wp2_with fail
        refine (lsame_at sn is is.length rfl 2 4 3 A9 c9 _ HIOK.out (by omega) (by omega) (by omega) hc9 HI.out.p).mono ?_
        rintro e w10 ⟨rfl, hb⟩
        replace HLW := Lib.hid (HLW.out.step hb)
        go_wp2_with fail
        go_ret
        exact ⟨rfl, HLW.out.b⟩
      · skip
        (refine fixW_of rfl ?_; intro o ho; simp only [List.getElem?_toArray, List.getElem?_cons_zero, List.getElem?_cons_succ, Option.some.injEq] at ho; subst ho; intro K hK)
        go_simp
        have HV : Hid (PrsF (wa44.alloc (.cells #[.int .i64 x, .int .i64 y] 41)) (some ⟨wa44.heap.size, 0, none⟩) [(x, y)]) := ⟨Prs.of_vals (ps := [(x, y)]) (vals_new' wa44 [.int .i64 x, .int .i64 y] 41)⟩
        replace LS := Lib.hid (LS.out.step (stepA wa44 (.cells #[.int .i64 x, .int .i64 y] 41))); replace HB := Lib.hid (HB.out.step (stepA wa44 (.cells #[.int .i64 x, .int .i64 y] 41)))
        (refine hK.out _ _ (fun _ _ => HCL.out _ LS.out) (fun _ _ => trivial) ?_; clear hK K; try simp only [Act.put, List.setIfInBounds_toArray, List.set_cons_zero, List.set_cons_succ])
        generalize wa44.alloc (.cells #[.int .i64 x, .int .i64 y] 41) = wa48 at HV LS HB ⊢
        generalize wa44.heap.size = g8 at HV ⊢
        (refine wpTri_fix rfl rfl rfl ?_; intro o ho; simp only [List.getElem?_toArray, List.getElem?_cons_zero, List.getElem?_cons_succ, Option.some.injEq] at ho; subst ho; intro K hK)
        refine step_append_prs rfl (.const (.slice none 0 0)) (.tmp 51) rfl wS.heap.size [] (.slice none 0 0) rfl (own_nil _ _ _ _) wS.heap.size B d zs rfl (HBS.out.p.below LS.out.b) (by simp; omega) LS.out.size zs rfl ?_
        intro A4 c4 wa49 H4 hc4 HG
        have hb := grown_nil HG.out
        replace LS := Lib.hid (LS.out.step hb); replace HV := Lib.hid (HV.out.step hb); replace HB := Lib.hid (HB.out.step hb)
        clear hb HG hc4
        (refine hK.out _ _ (fun _ _ => HCL.out _ LS.out) (fun _ _ => trivial) ?_; clear hK K; try simp only [Act.put, List.setIfInBounds_toArray, List.set_cons_zero, List.set_cons_succ])
        (refine wpTri_fix rfl rfl rfl ?_; intro o ho; simp only [List.getElem?_toArray, List.getElem?_cons_zero, List.getElem?_cons_succ, Option.some.injEq] at ho; subst ho; intro K hK)
        refine step_append_prs rfl (.tmp 52) (.tmp 56) rfl wS.heap.size zs (.slice A4 zs.length c4) rfl H4.out.p wa49.heap.size (some ⟨g8, 0, none⟩) 1 [(x, y)] rfl HV.out.p (by simp; omega) LS.out.size is his.out ?_
        intro A9 c9 wa50 H9 hc9 HG
        replace HB : Hid (BlkF _ _ _ _) := ⟨HB.out.p.by_ HG.out (own_ne H4.out.p HB.out.p (by decide))⟩
        replace LS := Lib.hid (LS.out.grown HG.out (own_block H4.out.p))
        clear HG HV H4
        (refine hK.out _ _ (fun _ _ => HCL.out _ LS.out) (fun _ _ => trivial) ?_; clear hK K; try simp only [Act.put, List.setIfInBounds_toArray, List.set_cons_zero, List.set_cons_succ])
        (refine wpTri_mov rfl rfl ?_; intro o ho; simp only [List.getElem?_toArray, List.getElem?_cons_zero, List.getElem?_cons_succ, Option.some.injEq] at ho; subst ho; refine ⟨?_, Or.inl ⟨by rfl, fun W hSW => ?_⟩, ?_⟩; rotate_left; (focus (go_simp; first | done | with_reducible rfl)); try simp only [Act.put, List.setIfInBounds_toArray, List.set_cons_zero, List.set_cons_succ])
        have d0 := HB.out.cell 0
        have d1 := HB.out.cell 1
        have f0 := HB.out.p.frozen 0
        have f1 := HB.out.p.frozen 1
        (refine wpTri_fix rfl rfl rfl ?_; intro o ho; simp only [List.getElem?_toArray, List.getElem?_cons_zero, List.getElem?_cons_succ, Option.some.injEq] at ho; subst ho; intro K hK)
        go_simp
        clear d0 d1 f0 f1
        have hb14 := HBN.out
        replace LS : Hid (Low wS ((wa50.setCell ⟨b14, 0, none⟩ (.int .i64 sn)).setCell ⟨b14, 1, none⟩ (.slice A9 is.length c9))) := ⟨(LS.out.b.setCell (p := ⟨b14, 0, none⟩) hb14 (.int .i64 sn)).setCell (p := ⟨b14, 1, none⟩) hb14 (.slice A9 is.length c9)⟩
        replace H9 : Hid (OwnF ((wa50.setCell ⟨b14, 0, none⟩ (.int .i64 sn)).setCell ⟨b14, 1, none⟩ (.slice A9 is.length c9)) _ _ _ _ _ _) := ⟨own_set (own_set H9.out.p HB.out.p (by decide) 0 (.int .i64 sn)) (HB.out.p.set_ 0 (.int .i64 sn)) (by decide) 1 (.slice A9 is.length c9)⟩
        replace HB : Hid (BlkF ((wa50.setCell ⟨b14, 0, none⟩ (.int .i64 sn)).setCell ⟨b14, 1, none⟩ (.slice A9 is.length c9)) b14 24 #[.int .i64 sn, .slice A9 is.length c9]) := ⟨(HB.out.p.set_ 0 (.int .i64 sn)).set_ 1 (.slice A9 is.length c9)⟩
        clear hb14
        (refine hK.out _ _ (fun _ _ => HCL.out _ LS.out) (fun _ _ => trivial) ?_; clear hK K; try simp only [Act.put, List.setIfInBounds_toArray, List.set_cons_zero, List.set_cons_succ])
        refine wpTri_done ?_
        generalize (wa50.setCell ⟨b14, 0, none⟩ (.int .i64 sn)).setCell ⟨b14, 1, none⟩ (.slice A9 is.length c9) = wT at LS H9 HB ⊢
        have HI : Hid (PrsF wT A9 is) := ⟨Prs.of_vals (Vals.of_own H9.out.p)⟩
        have HH : Hid (PrsF wT Y hs) := ⟨(HHS.out.p.below LS.out.b).more LS.out.size⟩
        have HY : Hid (BlkF wT (w1.heap.size + 1) 24 #[.int .i64 sn, .slice Y zs.length c2]) := ⟨HYS.out.p.below LS.out.b HYS.out.p.lt⟩
        have HLW : Hid (Low w wT) := ⟨below2 HLS.out.b HLS.out.size LS.out.b⟩
        clear LS H9 HBN
        go_wp2_with fail
        refine (awake1_any _).mono ?_
        rintro e w8 ⟨rfl, hb⟩
        replace HI := Lib.hid (HI.out.step hb); replace HH := Lib.hid (HH.out.step hb); replace HY := Lib.hid (HY.out.step hb); replace HB := Lib.hid (HB.out.step hb); replace HLW := Lib.hid (HLW.out.step hb)
        clear hb
        have y0 := HY.out.cell 0
        have y1 := HY.out.cell 1
        go_wp2_with fail
        refine (lsame_at sn hs zs.length hsl.out 2 4 3 Y c2 _ HHOK.out (by omega) (by omega) (by omega) hc2 HH.out.p).mono ?_
        rintro e w9 ⟨rfl, hb⟩
        replace HI := Lib.hid (HI.out.step hb); replace HB := Lib.hid (HB.out.step hb); replace HLW := Lib.hid (HLW.out.step hb)
        clear hb y0 y1
        have y0 := HB.out.cell 0
        have y1 := HB.out.cell 1
        go_wp2_with fail
        refine (lsame_at sn is is.length rfl 2 4 3 A9 c9 _ HIOK.out (by omega) (by omega) (by omega) hc9 HI.out.p).mono ?_
        rintro e w10 ⟨rfl, hb⟩
        replace HLW := Lib.hid (HLW.out.step hb)
        go_wp2_with fail
        go_ret
        exact ⟨rfl, HLW.out.b⟩
end Go.Proofs.Ytbdhkagcbncefaa
