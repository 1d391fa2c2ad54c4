/- Formulas by numbers: make's walk (printed by laws8e.py). Formulas by numbers: Made. -/
import Derived.Test.YtijecfmblddanaaDoorG3
import Derived.Laws.EntriesVeiled
set_option linter.unusedVariables false
set_option linter.unusedSimpArgs false
namespace Go.Proofs.YtijecfmblddanaaDoor
open Go.RowKit Go.Maps

theorem names7_row (p : Nat) (hp : p < 7) : (#[.string ⟨#[113]⟩, .string ⟨#[108, 48]⟩, .string ⟨#[111, 117, 116]⟩, .string ⟨#[108, 49]⟩, .string ⟨#[105, 48]⟩, .string ⟨#[111, 48]⟩, .string ⟨#[97, 45, 98]⟩] : Array Value)[p]? = some (.string ⟨(names7[p]?.getD []).toArray⟩) := by
  match p, hp with
  | 0, _ => rfl
  | 1, _ => rfl
  | 2, _ => rfl
  | 3, _ => rfl
  | 4, _ => rfl
  | 5, _ => rfl
  | 6, _ => rfl

theorem names7_len (p : Nat) (hp : p < 7) : (names7[p]?.getD []).length ≤ 3 := by
  match p, hp with
  | 0, _ => decide
  | 1, _ => decide
  | 2, _ => decide
  | 3, _ => decide
  | 4, _ => decide
  | 5, _ => decide
  | 6, _ => decide

set_option maxRecDepth 100000 in
set_option maxHeartbeats 8000000 in
theorem make_step (l : List UInt8) (g : Nat → Fm × Nat) (D a M : Nat) (w : World) (B xa xl xp xm c : Nat) (A : Option Addr) (hD : D ≤ 6) (ha : a ≤ 100000) (hl : l.length ≤ c) (hc : c ≤ 140737488355328) (hS : MkSt w B xa xl xp xm A c l) (hX : Blk w xa 3 #[.int .i64 (a : Int)])
    (hg : ∀ a' : Nat, a' ≤ a + 3 → ∀ n, n ≤ 2 → (kidsN g n a').2 ≤ M)
    (hleaf : D = 0 → nk (kindF l D a).1 = 0)
    (hkid : D ≠ 0 → ∀ (a' : Nat) (W : World), a' ≤ M → MkSt W B xa xl xp xm A c l → Blk W xa 3 #[.int .i64 (a' : Int)] → Calls Tryd.prog 41 #[.int .i64 ((D : Int) - 1), .pointer (some ⟨xp, 0, none⟩), .pointer (some ⟨xa, 0, none⟩), .pointer (some ⟨xl, 0, none⟩), .pointer (some ⟨xm, 0, none⟩)] W (MkPost W xa (g a'))) :
    Calls Tryd.prog 41 #[.int .i64 (D : Int), .pointer (some ⟨xp, 0, none⟩), .pointer (some ⟨xa, 0, none⟩), .pointer (some ⟨xl, 0, none⟩), .pointer (some ⟨xm, 0, none⟩)] w (MkPost w xa (mkStep l D a g)) := by
  have hkl : l.length ≤ 140737488355328 := by omega
  have hb1 := stepA w (.cells #[.int .i64 0, .string ⟨#[]⟩, .int .i64 0, .slice none 0 0] 37)
  have HB0 : Hid (MkB w w B xa xl xp xm A c l a) := Lib.hid ⟨hS, hX, World.grownBy.refl w _⟩
  have HB1 := Lib.hid (HB0.out.after hb1)
  have HX6 := Lib.hid (Blk.new w 37 #[.int .i64 0, .string ⟨#[]⟩, .int .i64 0, .slice none 0 0])
  have p0 := HB1.out.st.p.cell 0
  have hxa := hX.lt
  have hxp := hS.p.lt
  have hxm := hS.m.lt
  have hxl := hS.s.lt
  have hpa := hS.pa
  have hma := hS.ma
  have hla := hS.la
  have HKI := Lib.hid hkid
  have HGG := Lib.hid hg
  have HLF := Lib.hid hleaf
  have HQ : Hid (∀ q, (∃ (i : Nat) (b : UInt8), l[i]? = some b ∧ ∃ o, A = some ⟨q, o, none⟩ ∧ q < B) → q < w.heap.size) := Lib.hid fun q h => by
    obtain ⟨_, _, _, _, _, h⟩ := h
    have := hS.b
    omega
  clear hb1 hS hX hkid hg hleaf
  go_enter Tryd.func41, Tryd.ntmps41
  go_wp2_with fail
  refine (pick_step l (a := a) (.inl rfl) (by omega) hl hc HB1.out).mono ?_
  rintro e w2 ⟨rfl, hB2, hg2⟩
  have HB2 := Lib.hid hB2
  have hx6 := HX6.out.grown hg2 (by simp; omega)
  have HX62 := Lib.hid hx6
  have hs2 := hg2.size
  simp only [World.size_alloc] at hs2
  have a0 := hB2.a.cell 0
  have l0 := hB2.st.s.cell 0
  have p1 := hB2.st.p.cell 0
  have hP18 := pickN_lt l a 18 (by decide)
  clear hB2 hg2 hx6 p0
  obtain ⟨K, hKK⟩ : ∃ K, K = kindF l D a := ⟨_, rfl⟩
  have HKK := Lib.hid hKK
  have hK1 : 1 ≤ K.1 ∧ K.1 ≤ 18 := by rw [hKK]; exact kindF_in l D a
  obtain ⟨hK1, hK18⟩ := hK1
  have hKa : a + 1 ≤ K.2 ∧ K.2 ≤ a + 2 := by rw [hKK]; exact kindF_at l D a
  obtain ⟨hKa1, hKa2⟩ := hKa
  clear hKK
  by_cases hz : D = 0
  · skip
    have hd0 : ((D : Int) == 0) = true := by simp [hz]
    have hcond : D = 0 ∨ l.length ≤ a + 1 ∨ 30 < a + 1 := .inl hz
    clear hz
    have hKe : 3 - (pickN l (a + 1) 7 : Int) / 5 = K.1 := by rw [HKK.out]; unfold kindF; rw [if_pos hcond]; rfl
    have hKf : K.2 = a + 2 := by rw [HKK.out]; unfold kindF; rw [if_pos hcond]
    have hP7 := pickN_lt l (a + 1) 7 (by decide)
    have t5 : Int.tdiv (pickN l (a + 1) 7 : Int) 5 = ((pickN l (a + 1) 7 / 5 : Nat) : Int) := by rw [Int.tdiv_eq_ediv_of_nonneg (by omega)]; omega
    have HKF := Lib.hid hKf
    clear hcond hKf
    go_wp2_with fail
    refine (pick_step l (a := a + 1) (.inr rfl) (by omega) hl hc HB2.out).mono ?_
    rintro e w3 ⟨rfl, hB3, hg3⟩
    have HB3 : Hid (MkB w w3 B xa xl xp xm A c l K.2) := Lib.hid (by rw [HKF.out]; exact hB3)
    have HX63 := Lib.hid (HX62.out.grown hg3 (by simp; omega))
    have hs3 := hg3.size
    clear hB3 hg3 a0 l0 p1
    have hb8 := stepA w3 (.cells #[.int .i64 K.1, .string ⟨#[]⟩, .int .i64 0, .slice none 0 0] 37)
    have HBa := Lib.hid (HB3.out.after hb8)
    have HX6a := Lib.hid (HX63.out.alloc (.cells #[.int .i64 K.1, .string ⟨#[]⟩, .int .i64 0, .slice none 0 0] 37))
    have HX8a := Lib.hid (Blk.new w3 37 #[.int .i64 K.1, .string ⟨#[]⟩, .int .i64 0, .slice none 0 0])
    clear hb8
    by_cases h3 : K.1 = 3
    · have h3k : (K.1 == 3) = true := by simp [h3]
      have hb9 := stepA (w3.alloc (.cells #[.int .i64 K.1, .string ⟨#[]⟩, .int .i64 0, .slice none 0 0] 37)) (.cells #[.string ⟨#[113]⟩, .string ⟨#[108, 48]⟩, .string ⟨#[111, 117, 116]⟩, .string ⟨#[108, 49]⟩, .string ⟨#[105, 48]⟩, .string ⟨#[111, 48]⟩, .string ⟨#[97, 45, 98]⟩] 9)
      have HBb := Lib.hid (HBa.out.after hb9)
      have HX6b := Lib.hid (HX6a.out.alloc (.cells #[.string ⟨#[113]⟩, .string ⟨#[108, 48]⟩, .string ⟨#[111, 117, 116]⟩, .string ⟨#[108, 49]⟩, .string ⟨#[105, 48]⟩, .string ⟨#[111, 48]⟩, .string ⟨#[97, 45, 98]⟩] 9))
      have HX8b := Lib.hid (HX8a.out.alloc (.cells #[.string ⟨#[113]⟩, .string ⟨#[108, 48]⟩, .string ⟨#[111, 117, 116]⟩, .string ⟨#[108, 49]⟩, .string ⟨#[105, 48]⟩, .string ⟨#[111, 48]⟩, .string ⟨#[97, 45, 98]⟩] 9))
      have HRb := Lib.hid (Blk.new (w3.alloc (.cells #[.int .i64 K.1, .string ⟨#[]⟩, .int .i64 0, .slice none 0 0] 37)) 9 #[.string ⟨#[113]⟩, .string ⟨#[108, 48]⟩, .string ⟨#[111, 117, 116]⟩, .string ⟨#[108, 49]⟩, .string ⟨#[105, 48]⟩, .string ⟨#[111, 48]⟩, .string ⟨#[97, 45, 98]⟩])
      have p2 := HBb.out.st.p.cell 0
      have HNM : Hid (nameF l K.1 K.2 = (names7[pickN l K.2 7]?.getD [], K.2 + 1)) := Lib.hid (by unfold nameF; rw [if_pos h3])
      clear hb9 h3
      go_wp2_with fail
      refine (pick_step l (a := K.2) (.inr rfl) (by omega) hl hc HBb.out).mono ?_
      rintro e w4 ⟨rfl, hB4, hg4⟩
      have hx8ne : w3.heap.size ≠ xa := by omega
      have hX64 := HX6b.out.grown hg4 (by simp; omega)
      have hX84 := HX8b.out.grown hg4 (by simp; omega)
      have hR4 := HRb.out.grown hg4 (by simp; omega)
      have hPn := pickN_lt l K.2 7 (by decide)
      have hrow := (hR4.cell (pickN l K.2 7)).trans (names7_row _ hPn)
      have f81 := hX84.frozen 1
      have c81 := hX84.cell 1
      simp only [World.size_alloc] at hrow
      have HB4 := Lib.hid hB4
      have HX64 := Lib.hid hX64
      have HX84 := Lib.hid hX84
      clear hB4 hg4 hX64 hX84 hR4 p2
      go_wp2_with fail
      have hxx : w.heap.size ≤ w3.heap.size := by omega
      have HB5 := Lib.hid (HB4.out.own (x := w3.heap.size) (j := 1) HX84.out hxx hxa hxp hxm hxl (.string ⟨(names7[pickN l K.2 7]?.getD []).toArray⟩) HQ.out)
      have HX65 := Lib.hid (HX64.out.far (p := ⟨w3.heap.size, 1, none⟩) (by simp; omega) (.string ⟨(names7[pickN l K.2 7]?.getD []).toArray⟩))
      have HX85 := Lib.hid (HX84.out.set_ 1 (.string ⟨(names7[pickN l K.2 7]?.getD []).toArray⟩))
      obtain ⟨nm, hnm⟩ : ∃ nm, nm = names7[pickN l K.2 7]?.getD [] := ⟨_, rfl⟩
      have hnml : nm.length ≤ 3 := by rw [hnm]; exact names7_len _ hPn
      rw [← hnm] at HB5 HX65 HX85 HNM ⊢
      clear hnm hrow
      obtain ⟨a3, ha3⟩ : ∃ a3, a3 = K.2 + 1 := ⟨_, rfl⟩
      rw [← ha3] at HB5 HNM
      have ha33 : a3 ≤ a + 3 := by omega
      clear ha3
      generalize w4.setCell ⟨w3.heap.size, 1, none⟩ (.string ⟨nm.toArray⟩) = w5 at HB5 HX65 HX85 ⊢
      obtain ⟨x8, hx8⟩ : ∃ x8, x8 = w3.heap.size := ⟨_, rfl⟩
      have hx8w : w.heap.size < x8 := by omega
      rw [← hx8] at HX85 ⊢
      clear hx8
      refine (rkids_any _ _).mono ?_
      rintro e w6 ⟨rfl, hw6⟩
      have hw6 := hw6.symm
      subst hw6
      have hnk := nk_le K.1
      have hnk0 : 0 ≤ nk K.1 := by unfold nk; rw [if_neg (by omega)]; split <;> (try split) <;> decide
      obtain ⟨cnt, hcnt⟩ : ∃ cnt : Nat, nk K.1 = (cnt : Int) := ⟨(nk K.1).toNat, by omega⟩
      have HCN := Lib.hid hcnt
      rw [hcnt]
      clear hnk0
      rw [hcnt] at hnk
      have hx8l := HX85.out.lt
      clear hcnt
      go_wp2_with fail
      go_loopw [9] (fun iv wr => ∃ (r : Nat) (L : List (Fm × Option Addr × Nat)) (A' : Option Addr) (c' : Nat), iv = .int .i64 (r : Int) ∧ L.length + r = cnt ∧ L.map (·.1) = (kidsN g L.length a3).1 ∧ MkL w wr B xa xl xp xm A c l x8 K.1 nm L A' c' (kidsN g L.length a3).2 wr.heap.size) (fun iv _ => (intOf iv).toNat)
      case atStart => exact ⟨cnt, [], none, 0, rfl, by simp, rfl, HB5.out, HX65.out, HX85.out, ⟨rfl, .inl ⟨rfl, rfl⟩⟩, Nat.le_refl _, fun _ => 0, fun _ => 0, fun i x h => by cases h⟩
      case round =>
        obtain ⟨r, L, A', c', rfl, hjr, hLm, hLL⟩ := hrel
        have hszr := hLL.b.g.size
        have x83 := hLL.r8.cell 3
        have m0 := hLL.b.st.m.cell 0
        have HL := Lib.hid hLL
        have HLM := Lib.hid hLm
        clear hLm hLL
        by_cases hr0 : 0 < r
        · have hr0' : (0 : Int) < (r : Int) := by omega
          have hD0 : D ≠ 0 := fun h => by
            have := HLF.out h
            rw [← HKK.out, HCN.out] at this
            omega
          have hwr : IntKind.i64.wrap ((D : Int) - 1) = (D : Int) - 1 := IntWalk.i64_in _ (by omega)
          have HC := Lib.hid (HKI.out hD0 (kidsN g L.length a3).2 wr.drew (HGG.out a3 (by omega) L.length (by omega)) (HL.out.drew hxa hx8w).b.st (HL.out.drew hxa hx8w).b.a)
          go_wp2_with fail
          refine wp_region_noPanic ?_
          refine wp_region_seq (fun W => W.cell? ⟨x8, 3, none⟩ = some (.slice A' L.length c') ∧ W.cell? ⟨xm, 0, none⟩ = some (.func (.func 41) #[] #[.pointer (some ⟨xp, 0, none⟩), .pointer (some ⟨xa, 0, none⟩), .pointer (some ⟨xl, 0, none⟩), .pointer (some ⟨xm, 0, none⟩)])) [0, 1, 2, 3, 4, 5, 6, 7, 8, 9] [0, 1, 2, 3, 4, 8] [9] (by kernel_rfl) (by kernel_rfl) rfl (by kernel_rfl) (by kernel_rfl) (fun _ _ _ _ _ h => h) ?_ (fun hSS => ?_)
          · exact ⟨x83, m0⟩
          clear hSS
          (refine wpSeq_mov rfl rfl ?_; intro o ho; simp only [List.getElem?_toArray, List.getElem?_cons_zero, List.getElem?_cons_succ, Option.some.injEq] at ho; subst ho; refine ⟨?_, Or.inl ⟨by rfl, fun W hSW => ?_⟩, ?_⟩; rotate_left; (focus (go_simp; first | done | with_reducible rfl)); try simp only [Act.put, List.setIfInBounds_toArray, List.set_cons_zero, List.set_cons_succ])
          (refine wpSeq_mov rfl rfl ?_; intro o ho; simp only [List.getElem?_toArray, List.getElem?_cons_zero, List.getElem?_cons_succ, Option.some.injEq] at ho; subst ho; refine ⟨?_, Or.inl ⟨by rfl, fun W hSW => ?_⟩, ?_⟩; rotate_left; (focus (go_simp; first | done | with_reducible rfl)); try simp only [Act.put, List.setIfInBounds_toArray, List.set_cons_zero, List.set_cons_succ])
          (refine wpSeq_mov rfl rfl ?_; intro o ho; simp only [List.getElem?_toArray, List.getElem?_cons_zero, List.getElem?_cons_succ, Option.some.injEq] at ho; subst ho; refine ⟨?_, Or.inl ⟨by rfl, fun W hSW => ?_⟩, ?_⟩; rotate_left; (focus (go_simp; first | done | with_reducible rfl)); try simp only [Act.put, List.setIfInBounds_toArray, List.set_cons_zero, List.set_cons_succ])
          (refine wpSeq_mov rfl rfl ?_; intro o ho; simp only [List.getElem?_toArray, List.getElem?_cons_zero, List.getElem?_cons_succ, Option.some.injEq] at ho; subst ho; refine ⟨?_, Or.inl ⟨by rfl, fun W hSW => ?_⟩, ?_⟩; rotate_left; (focus (go_simp; first | done | with_reducible rfl)); try simp only [Act.put, List.setIfInBounds_toArray, List.set_cons_zero, List.set_cons_succ])
          (refine wpSeq_mov rfl rfl ?_; intro o ho; simp only [List.getElem?_toArray, List.getElem?_cons_zero, List.getElem?_cons_succ, Option.some.injEq] at ho; subst ho; refine ⟨?_, Or.inl ⟨by rfl, fun W hSW => ?_⟩, ?_⟩; rotate_left; (focus (go_simp; first | done | with_reducible rfl)); try simp only [Act.put, List.setIfInBounds_toArray, List.set_cons_zero, List.set_cons_succ])
          (refine wpSeq_fix rfl rfl ?_; intro o ho; simp only [List.getElem?_toArray, List.getElem?_cons_zero, List.getElem?_cons_succ, Option.some.injEq] at ho; subst ho; intro K hK)
          go_simp
          refine HC.out.mono ?_
          rintro e w7 ⟨A1, c1, rfl, hP⟩
          have hL7 := (HL.out.drew hxa hx8w).call hxa hx8w hP.g hP.a
          have HV7 := Lib.hid hP.v
          have hs7 : wr.heap.size ≤ w7.heap.size := hP.g.size
          have HL7 := Lib.hid hL7
          have hxr : x8 < wr.heap.size := HL.out.r8.lt
          have hxmw : xm < x8 := by omega
          have HRW : Hid (∀ k, (Value.slice A' L.length c').ownBlock = some k → x8 < k ∧ k < wr.heap.size) := Lib.hid fun k hk => by
            have := HL.out.o.lt k hk
            omega
          clear hP hL7 x83 m0
          unfold fmA
          (refine hK.out _ _ (fun _ => ⟨HL7.out.r8.cell 3, HL7.out.b.st.m.cell 0⟩) ?_; clear hK K; try simp only [Act.put, List.setIfInBounds_toArray, List.set_cons_zero, List.set_cons_succ])
          (refine wpSeq_fix rfl rfl ?_; intro o ho; simp only [List.getElem?_toArray, List.getElem?_cons_zero, List.getElem?_cons_succ, Option.some.injEq] at ho; subst ho; intro K hK)
          go_simp
          (refine hK.out _ _ (fun _ => ⟨(HL7.out.r8.alloc _).cell 3, (HL7.out.b.st.m.alloc _).cell 0⟩) ?_; clear hK K; try simp only [Act.put, List.setIfInBounds_toArray, List.set_cons_zero, List.set_cons_succ])
          (refine wpSeq_fix rfl rfl ?_; intro o ho; simp only [List.getElem?_toArray, List.getElem?_cons_zero, List.getElem?_cons_succ, Option.some.injEq] at ho; subst ho; intro K hK)
          refine step_append_fm rfl (.tmp 46) (.tmp 51) rfl (x8 + 1) L (.slice A' L.length c') rfl (own_below HL7.out.o (stepA w7 (.cells #[.int .i64 (g (kidsN g L.length a3).2).1.kind, .string ⟨(g (kidsN g L.length a3).2).1.name.toArray⟩, .int .i64 (g (kidsN g L.length a3).2).1.lit, .slice A1 (g (kidsN g L.length a3).2).1.kids.length c1] 37))) w7.heap.size (g (kidsN g L.length a3).2).1 A1 c1 rfl (Blk.new _ _ _) (by omega) (by simp; omega) ?_
          intro A2 c2 w9 ho9 hc9 hg9 hat9
          have HL9 := Lib.hid (HL7.out.push hxa hxp hxm hxl hx8w HQ.out hxr hs7 (Nat.le_refl _) (fun k hk => (HRW.out k hk).2) HV7.out ho9 hg9 hat9)
          have h89 := (HL7.out.r8.alloc (.cells #[.int .i64 (g (kidsN g L.length a3).2).1.kind, .string ⟨(g (kidsN g L.length a3).2).1.name.toArray⟩, .int .i64 (g (kidsN g L.length a3).2).1.lit, .slice A1 (g (kidsN g L.length a3).2).1.kids.length c1] 37)).grown hg9 (fun e => by have := (HRW.out x8 e.symm).1; omega)
          have hm9 := (HL7.out.b.st.m.alloc (.cells #[.int .i64 (g (kidsN g L.length a3).2).1.kind, .string ⟨(g (kidsN g L.length a3).2).1.name.toArray⟩, .int .i64 (g (kidsN g L.length a3).2).1.lit, .slice A1 (g (kidsN g L.length a3).2).1.kids.length c1] 37)).grown hg9 (fun e => by have := (HRW.out xm e.symm).1; omega)
          have q83 := h89.cell 3
          have qf3 := h89.frozen 3
          have HQQ := Lib.hid (And.intro (h89.cell 3) (hm9.cell 0))
          clear h89 hm9 ho9 hg9 hat9
          (refine hK.out _ _ (fun _ => HQQ.out) ?_; clear hK K; try simp only [Act.put, List.setIfInBounds_toArray, List.set_cons_zero, List.set_cons_succ])
          (refine wpSeq_mov rfl rfl ?_; intro o ho; simp only [List.getElem?_toArray, List.getElem?_cons_zero, List.getElem?_cons_succ, Option.some.injEq] at ho; subst ho; refine ⟨?_, Or.inl ⟨by rfl, fun W hSW => ?_⟩, ?_⟩; rotate_left; (focus (go_simp; first | done | with_reducible rfl)); try simp only [Act.put, List.setIfInBounds_toArray, List.set_cons_zero, List.set_cons_succ])
          (refine wpSeq_fix rfl rfl ?_; intro o ho; simp only [List.getElem?_toArray, List.getElem?_cons_zero, List.getElem?_cons_succ, Option.some.injEq] at ho; subst ho; intro K hK)
          go_simp
          (refine hK.out _ _ (fun h => by simp at h) ?_; clear hK K; try simp only [Act.put, List.setIfInBounds_toArray, List.set_cons_zero, List.set_cons_succ])
          refine wpSeq_done ?_
          go_wp2_with fail
          go_roundw
          case rel =>
            have hsn : (L ++ [((g (kidsN g L.length a3).2).1, A1, c1)]).length = L.length + 1 := by simp
            refine ⟨r - 1, L ++ [((g (kidsN g L.length a3).2).1, A1, c1)], A2, c2, ?_, by rw [hsn]; omega, ?_, ?_⟩
            · congr 1
              omega
            · rw [hsn, kidsN_snoc, List.map_append, HLM.out]
              rfl
            · rw [hsn, kidsN_snoc]
              exact HL9.out
          case measure => simp [intOf]; omega
        · have hr0' : ¬ (0 : Int) < (r : Int) := by omega
          have x80 := HL.out.r8.cell 0
          have x81 := HL.out.r8.cell 1
          have x82 := HL.out.r8.cell 2
          have y0 := HL.out.r6.cell 0
          have y1 := HL.out.r6.cell 1
          have y2 := HL.out.r6.cell 2
          have y3 := HL.out.r6.cell 3
          have yf0 := HL.out.r6.frozen 0
          have yf1 := HL.out.r6.frozen 1
          have yf2 := HL.out.r6.frozen 2
          have yf3 := HL.out.r6.frozen 3
          go_wp2_with fail
          have hZ := (((HL.out.r6.set_ 0 (.int .i64 K.1)).set_ 1 (.string ⟨nm.toArray⟩)).set_ 2 (.int .i64 0)).set_ 3 (.slice A' L.length c')
          have z0 := hZ.cell 0
          have z1 := hZ.cell 1
          have z2 := hZ.cell 2
          have z3 := hZ.cell 3
          refine bodyPost_ret (v := .agg #[.int .i64 K.1, .string ⟨nm.toArray⟩, .int .i64 0, .slice A' L.length c']) (by simp [results, Tryd.results41, go_sem, z0, z1, z2, z3]) rfl ?_
          have hcr : L.length = cnt := by omega
          have hres : mkStep l D a g = (.mk K.1 nm 0 (L.map (·.1)), (kidsN g L.length a3).2) := by
            unfold mkStep
            rw [← HKK.out, HNM.out, HCN.out, HLM.out, hcr]
            rfl
          rw [hres]
          refine ⟨A', c', by simp [fmA, Fm.kind, Fm.name, Fm.lit, Fm.kids], ?_⟩
          exact HL.out.done hxa hx8w (by omega) ⟨hK1, hK18⟩ hnml (grown_set (grown_set (grown_set (grown_set (World.grownBy.refl _ _) _ _) _ _) _ _) _ _)
    · have h3k : (K.1 == 3) = false := by simp [h3]
      have HNM : Hid (nameF l K.1 K.2 = ([], K.2)) := Lib.hid (by unfold nameF; rw [if_neg h3])
      clear h3
      go_wp2_with fail
      have HB5 := HBa
      have HX65 := HX6a
      have HX85 := HX8a
      obtain ⟨a3, ha3⟩ : ∃ a3, a3 = K.2 := ⟨_, rfl⟩
      rw [← ha3] at HB5
      replace HNM : Hid (nameF l K.1 K.2 = ([], a3)) := Lib.hid (by rw [ha3]; exact HNM.out)
      have ha33 : a3 ≤ a + 3 := by omega
      clear ha3
      obtain ⟨nm, hnm⟩ : ∃ nm : List UInt8, nm = [] := ⟨_, rfl⟩
      have hnml : nm.length ≤ 3 := by rw [hnm]; decide
      rw [← hnm] at HNM
      have HX85 : Hid (Blk _ w3.heap.size 37 #[.int .i64 K.1, .string ⟨nm.toArray⟩, .int .i64 0, .slice none 0 0]) := Lib.hid (by rw [hnm]; exact HX85.out)
      clear hnm
      generalize w3.alloc (.cells #[.int .i64 K.1, .string ⟨#[]⟩, .int .i64 0, .slice none 0 0] 37) = w5 at HB5 HX65 HX85 ⊢
      obtain ⟨x8, hx8⟩ : ∃ x8, x8 = w3.heap.size := ⟨_, rfl⟩
      have hx8w : w.heap.size < x8 := by omega
      rw [← hx8] at HX85 ⊢
      clear hx8
      refine (rkids_any _ _).mono ?_
      rintro e w6 ⟨rfl, hw6⟩
      have hw6 := hw6.symm
      subst hw6
      have hnk := nk_le K.1
      have hnk0 : 0 ≤ nk K.1 := by unfold nk; rw [if_neg (by omega)]; split <;> (try split) <;> decide
      obtain ⟨cnt, hcnt⟩ : ∃ cnt : Nat, nk K.1 = (cnt : Int) := ⟨(nk K.1).toNat, by omega⟩
      have HCN := Lib.hid hcnt
      rw [hcnt]
      clear hnk0
      rw [hcnt] at hnk
      have hx8l := HX85.out.lt
      clear hcnt
      go_wp2_with fail
      go_loopw [9] (fun iv wr => ∃ (r : Nat) (L : List (Fm × Option Addr × Nat)) (A' : Option Addr) (c' : Nat), iv = .int .i64 (r : Int) ∧ L.length + r = cnt ∧ L.map (·.1) = (kidsN g L.length a3).1 ∧ MkL w wr B xa xl xp xm A c l x8 K.1 nm L A' c' (kidsN g L.length a3).2 wr.heap.size) (fun iv _ => (intOf iv).toNat)
      case atStart => exact ⟨cnt, [], none, 0, rfl, by simp, rfl, HB5.out, HX65.out, HX85.out, ⟨rfl, .inl ⟨rfl, rfl⟩⟩, Nat.le_refl _, fun _ => 0, fun _ => 0, fun i x h => by cases h⟩
      case round =>
        obtain ⟨r, L, A', c', rfl, hjr, hLm, hLL⟩ := hrel
        have hszr := hLL.b.g.size
        have x83 := hLL.r8.cell 3
        have m0 := hLL.b.st.m.cell 0
        have HL := Lib.hid hLL
        have HLM := Lib.hid hLm
        clear hLm hLL
        by_cases hr0 : 0 < r
        · have hr0' : (0 : Int) < (r : Int) := by omega
          have hD0 : D ≠ 0 := fun h => by
            have := HLF.out h
            rw [← HKK.out, HCN.out] at this
            omega
          have hwr : IntKind.i64.wrap ((D : Int) - 1) = (D : Int) - 1 := IntWalk.i64_in _ (by omega)
          have HC := Lib.hid (HKI.out hD0 (kidsN g L.length a3).2 wr.drew (HGG.out a3 (by omega) L.length (by omega)) (HL.out.drew hxa hx8w).b.st (HL.out.drew hxa hx8w).b.a)
          go_wp2_with fail
          refine wp_region_noPanic ?_
          refine wp_region_seq (fun W => W.cell? ⟨x8, 3, none⟩ = some (.slice A' L.length c') ∧ W.cell? ⟨xm, 0, none⟩ = some (.func (.func 41) #[] #[.pointer (some ⟨xp, 0, none⟩), .pointer (some ⟨xa, 0, none⟩), .pointer (some ⟨xl, 0, none⟩), .pointer (some ⟨xm, 0, none⟩)])) [0, 1, 2, 3, 4, 5, 6, 7, 8, 9] [0, 1, 2, 3, 4, 8] [9] (by kernel_rfl) (by kernel_rfl) rfl (by kernel_rfl) (by kernel_rfl) (fun _ _ _ _ _ h => h) ?_ (fun hSS => ?_)
          · exact ⟨x83, m0⟩
          clear hSS
          (refine wpSeq_mov rfl rfl ?_; intro o ho; simp only [List.getElem?_toArray, List.getElem?_cons_zero, List.getElem?_cons_succ, Option.some.injEq] at ho; subst ho; refine ⟨?_, Or.inl ⟨by rfl, fun W hSW => ?_⟩, ?_⟩; rotate_left; (focus (go_simp; first | done | with_reducible rfl)); try simp only [Act.put, List.setIfInBounds_toArray, List.set_cons_zero, List.set_cons_succ])
          (refine wpSeq_mov rfl rfl ?_; intro o ho; simp only [List.getElem?_toArray, List.getElem?_cons_zero, List.getElem?_cons_succ, Option.some.injEq] at ho; subst ho; refine ⟨?_, Or.inl ⟨by rfl, fun W hSW => ?_⟩, ?_⟩; rotate_left; (focus (go_simp; first | done | with_reducible rfl)); try simp only [Act.put, List.setIfInBounds_toArray, List.set_cons_zero, List.set_cons_succ])
          (refine wpSeq_mov rfl rfl ?_; intro o ho; simp only [List.getElem?_toArray, List.getElem?_cons_zero, List.getElem?_cons_succ, Option.some.injEq] at ho; subst ho; refine ⟨?_, Or.inl ⟨by rfl, fun W hSW => ?_⟩, ?_⟩; rotate_left; (focus (go_simp; first | done | with_reducible rfl)); try simp only [Act.put, List.setIfInBounds_toArray, List.set_cons_zero, List.set_cons_succ])
          (refine wpSeq_mov rfl rfl ?_; intro o ho; simp only [List.getElem?_toArray, List.getElem?_cons_zero, List.getElem?_cons_succ, Option.some.injEq] at ho; subst ho; refine ⟨?_, Or.inl ⟨by rfl, fun W hSW => ?_⟩, ?_⟩; rotate_left; (focus (go_simp; first | done | with_reducible rfl)); try simp only [Act.put, List.setIfInBounds_toArray, List.set_cons_zero, List.set_cons_succ])
          (refine wpSeq_mov rfl rfl ?_; intro o ho; simp only [List.getElem?_toArray, List.getElem?_cons_zero, List.getElem?_cons_succ, Option.some.injEq] at ho; subst ho; refine ⟨?_, Or.inl ⟨by rfl, fun W hSW => ?_⟩, ?_⟩; rotate_left; (focus (go_simp; first | done | with_reducible rfl)); try simp only [Act.put, List.setIfInBounds_toArray, List.set_cons_zero, List.set_cons_succ])
          (refine wpSeq_fix rfl rfl ?_; intro o ho; simp only [List.getElem?_toArray, List.getElem?_cons_zero, List.getElem?_cons_succ, Option.some.injEq] at ho; subst ho; intro K hK)
          go_simp
          refine HC.out.mono ?_
          rintro e w7 ⟨A1, c1, rfl, hP⟩
          have hL7 := (HL.out.drew hxa hx8w).call hxa hx8w hP.g hP.a
          have HV7 := Lib.hid hP.v
          have hs7 : wr.heap.size ≤ w7.heap.size := hP.g.size
          have HL7 := Lib.hid hL7
          have hxr : x8 < wr.heap.size := HL.out.r8.lt
          have hxmw : xm < x8 := by omega
          have HRW : Hid (∀ k, (Value.slice A' L.length c').ownBlock = some k → x8 < k ∧ k < wr.heap.size) := Lib.hid fun k hk => by
            have := HL.out.o.lt k hk
            omega
          clear hP hL7 x83 m0
          unfold fmA
          (refine hK.out _ _ (fun _ => ⟨HL7.out.r8.cell 3, HL7.out.b.st.m.cell 0⟩) ?_; clear hK K; try simp only [Act.put, List.setIfInBounds_toArray, List.set_cons_zero, List.set_cons_succ])
          (refine wpSeq_fix rfl rfl ?_; intro o ho; simp only [List.getElem?_toArray, List.getElem?_cons_zero, List.getElem?_cons_succ, Option.some.injEq] at ho; subst ho; intro K hK)
          go_simp
          (refine hK.out _ _ (fun _ => ⟨(HL7.out.r8.alloc _).cell 3, (HL7.out.b.st.m.alloc _).cell 0⟩) ?_; clear hK K; try simp only [Act.put, List.setIfInBounds_toArray, List.set_cons_zero, List.set_cons_succ])
          (refine wpSeq_fix rfl rfl ?_; intro o ho; simp only [List.getElem?_toArray, List.getElem?_cons_zero, List.getElem?_cons_succ, Option.some.injEq] at ho; subst ho; intro K hK)
          refine step_append_fm rfl (.tmp 46) (.tmp 51) rfl (x8 + 1) L (.slice A' L.length c') rfl (own_below HL7.out.o (stepA w7 (.cells #[.int .i64 (g (kidsN g L.length a3).2).1.kind, .string ⟨(g (kidsN g L.length a3).2).1.name.toArray⟩, .int .i64 (g (kidsN g L.length a3).2).1.lit, .slice A1 (g (kidsN g L.length a3).2).1.kids.length c1] 37))) w7.heap.size (g (kidsN g L.length a3).2).1 A1 c1 rfl (Blk.new _ _ _) (by omega) (by simp; omega) ?_
          intro A2 c2 w9 ho9 hc9 hg9 hat9
          have HL9 := Lib.hid (HL7.out.push hxa hxp hxm hxl hx8w HQ.out hxr hs7 (Nat.le_refl _) (fun k hk => (HRW.out k hk).2) HV7.out ho9 hg9 hat9)
          have h89 := (HL7.out.r8.alloc (.cells #[.int .i64 (g (kidsN g L.length a3).2).1.kind, .string ⟨(g (kidsN g L.length a3).2).1.name.toArray⟩, .int .i64 (g (kidsN g L.length a3).2).1.lit, .slice A1 (g (kidsN g L.length a3).2).1.kids.length c1] 37)).grown hg9 (fun e => by have := (HRW.out x8 e.symm).1; omega)
          have hm9 := (HL7.out.b.st.m.alloc (.cells #[.int .i64 (g (kidsN g L.length a3).2).1.kind, .string ⟨(g (kidsN g L.length a3).2).1.name.toArray⟩, .int .i64 (g (kidsN g L.length a3).2).1.lit, .slice A1 (g (kidsN g L.length a3).2).1.kids.length c1] 37)).grown hg9 (fun e => by have := (HRW.out xm e.symm).1; omega)
          have q83 := h89.cell 3
          have qf3 := h89.frozen 3
          have HQQ := Lib.hid (And.intro (h89.cell 3) (hm9.cell 0))
          clear h89 hm9 ho9 hg9 hat9
          (refine hK.out _ _ (fun _ => HQQ.out) ?_; clear hK K; try simp only [Act.put, List.setIfInBounds_toArray, List.set_cons_zero, List.set_cons_succ])
          (refine wpSeq_mov rfl rfl ?_; intro o ho; simp only [List.getElem?_toArray, List.getElem?_cons_zero, List.getElem?_cons_succ, Option.some.injEq] at ho; subst ho; refine ⟨?_, Or.inl ⟨by rfl, fun W hSW => ?_⟩, ?_⟩; rotate_left; (focus (go_simp; first | done | with_reducible rfl)); try simp only [Act.put, List.setIfInBounds_toArray, List.set_cons_zero, List.set_cons_succ])
          (refine wpSeq_fix rfl rfl ?_; intro o ho; simp only [List.getElem?_toArray, List.getElem?_cons_zero, List.getElem?_cons_succ, Option.some.injEq] at ho; subst ho; intro K hK)
          go_simp
          (refine hK.out _ _ (fun h => by simp at h) ?_; clear hK K; try simp only [Act.put, List.setIfInBounds_toArray, List.set_cons_zero, List.set_cons_succ])
          refine wpSeq_done ?_
          go_wp2_with fail
          go_roundw
          case rel =>
            have hsn : (L ++ [((g (kidsN g L.length a3).2).1, A1, c1)]).length = L.length + 1 := by simp
            refine ⟨r - 1, L ++ [((g (kidsN g L.length a3).2).1, A1, c1)], A2, c2, ?_, by rw [hsn]; omega, ?_, ?_⟩
            · congr 1
              omega
            · rw [hsn, kidsN_snoc, List.map_append, HLM.out]
              rfl
            · rw [hsn, kidsN_snoc]
              exact HL9.out
          case measure => simp [intOf]; omega
        · have hr0' : ¬ (0 : Int) < (r : Int) := by omega
          have x80 := HL.out.r8.cell 0
          have x81 := HL.out.r8.cell 1
          have x82 := HL.out.r8.cell 2
          have y0 := HL.out.r6.cell 0
          have y1 := HL.out.r6.cell 1
          have y2 := HL.out.r6.cell 2
          have y3 := HL.out.r6.cell 3
          have yf0 := HL.out.r6.frozen 0
          have yf1 := HL.out.r6.frozen 1
          have yf2 := HL.out.r6.frozen 2
          have yf3 := HL.out.r6.frozen 3
          go_wp2_with fail
          have hZ := (((HL.out.r6.set_ 0 (.int .i64 K.1)).set_ 1 (.string ⟨nm.toArray⟩)).set_ 2 (.int .i64 0)).set_ 3 (.slice A' L.length c')
          have z0 := hZ.cell 0
          have z1 := hZ.cell 1
          have z2 := hZ.cell 2
          have z3 := hZ.cell 3
          refine bodyPost_ret (v := .agg #[.int .i64 K.1, .string ⟨nm.toArray⟩, .int .i64 0, .slice A' L.length c']) (by simp [results, Tryd.results41, go_sem, z0, z1, z2, z3]) rfl ?_
          have hcr : L.length = cnt := by omega
          have hres : mkStep l D a g = (.mk K.1 nm 0 (L.map (·.1)), (kidsN g L.length a3).2) := by
            unfold mkStep
            rw [← HKK.out, HNM.out, HCN.out, HLM.out, hcr]
            rfl
          rw [hres]
          refine ⟨A', c', by simp [fmA, Fm.kind, Fm.name, Fm.lit, Fm.kids], ?_⟩
          exact HL.out.done hxa hx8w (by omega) ⟨hK1, hK18⟩ hnml (grown_set (grown_set (grown_set (grown_set (World.grownBy.refl _ _) _ _) _ _) _ _) _ _)
  have hd0 : ((D : Int) == 0) = false := by simp [hz]
  by_cases hlen : l.length ≤ a + 1
  · skip
    have hcond : D = 0 ∨ l.length ≤ a + 1 ∨ 30 < a + 1 := .inr (.inl hlen)
    have hKe : 3 - (pickN l (a + 1) 7 : Int) / 5 = K.1 := by rw [HKK.out]; unfold kindF; rw [if_pos hcond]; rfl
    have hKf : K.2 = a + 2 := by rw [HKK.out]; unfold kindF; rw [if_pos hcond]
    have hP7 := pickN_lt l (a + 1) 7 (by decide)
    have t5 : Int.tdiv (pickN l (a + 1) 7 : Int) 5 = ((pickN l (a + 1) 7 / 5 : Nat) : Int) := by rw [Int.tdiv_eq_ediv_of_nonneg (by omega)]; omega
    have HKF := Lib.hid hKf
    clear hcond hKf
    go_wp2_with fail
    refine (pick_step l (a := a + 1) (.inr rfl) (by omega) hl hc HB2.out).mono ?_
    rintro e w3 ⟨rfl, hB3, hg3⟩
    have HB3 : Hid (MkB w w3 B xa xl xp xm A c l K.2) := Lib.hid (by rw [HKF.out]; exact hB3)
    have HX63 := Lib.hid (HX62.out.grown hg3 (by simp; omega))
    have hs3 := hg3.size
    clear hB3 hg3 a0 l0 p1
    have hb8 := stepA w3 (.cells #[.int .i64 K.1, .string ⟨#[]⟩, .int .i64 0, .slice none 0 0] 37)
    have HBa := Lib.hid (HB3.out.after hb8)
    have HX6a := Lib.hid (HX63.out.alloc (.cells #[.int .i64 K.1, .string ⟨#[]⟩, .int .i64 0, .slice none 0 0] 37))
    have HX8a := Lib.hid (Blk.new w3 37 #[.int .i64 K.1, .string ⟨#[]⟩, .int .i64 0, .slice none 0 0])
    clear hb8
    by_cases h3 : K.1 = 3
    · have h3k : (K.1 == 3) = true := by simp [h3]
      have hb9 := stepA (w3.alloc (.cells #[.int .i64 K.1, .string ⟨#[]⟩, .int .i64 0, .slice none 0 0] 37)) (.cells #[.string ⟨#[113]⟩, .string ⟨#[108, 48]⟩, .string ⟨#[111, 117, 116]⟩, .string ⟨#[108, 49]⟩, .string ⟨#[105, 48]⟩, .string ⟨#[111, 48]⟩, .string ⟨#[97, 45, 98]⟩] 9)
      have HBb := Lib.hid (HBa.out.after hb9)
      have HX6b := Lib.hid (HX6a.out.alloc (.cells #[.string ⟨#[113]⟩, .string ⟨#[108, 48]⟩, .string ⟨#[111, 117, 116]⟩, .string ⟨#[108, 49]⟩, .string ⟨#[105, 48]⟩, .string ⟨#[111, 48]⟩, .string ⟨#[97, 45, 98]⟩] 9))
      have HX8b := Lib.hid (HX8a.out.alloc (.cells #[.string ⟨#[113]⟩, .string ⟨#[108, 48]⟩, .string ⟨#[111, 117, 116]⟩, .string ⟨#[108, 49]⟩, .string ⟨#[105, 48]⟩, .string ⟨#[111, 48]⟩, .string ⟨#[97, 45, 98]⟩] 9))
      have HRb := Lib.hid (Blk.new (w3.alloc (.cells #[.int .i64 K.1, .string ⟨#[]⟩, .int .i64 0, .slice none 0 0] 37)) 9 #[.string ⟨#[113]⟩, .string ⟨#[108, 48]⟩, .string ⟨#[111, 117, 116]⟩, .string ⟨#[108, 49]⟩, .string ⟨#[105, 48]⟩, .string ⟨#[111, 48]⟩, .string ⟨#[97, 45, 98]⟩])
      have p2 := HBb.out.st.p.cell 0
      have HNM : Hid (nameF l K.1 K.2 = (names7[pickN l K.2 7]?.getD [], K.2 + 1)) := Lib.hid (by unfold nameF; rw [if_pos h3])
      clear hb9 h3
      go_wp2_with fail
      refine (pick_step l (a := K.2) (.inr rfl) (by omega) hl hc HBb.out).mono ?_
      rintro e w4 ⟨rfl, hB4, hg4⟩
      have hx8ne : w3.heap.size ≠ xa := by omega
      have hX64 := HX6b.out.grown hg4 (by simp; omega)
      have hX84 := HX8b.out.grown hg4 (by simp; omega)
      have hR4 := HRb.out.grown hg4 (by simp; omega)
      have hPn := pickN_lt l K.2 7 (by decide)
      have hrow := (hR4.cell (pickN l K.2 7)).trans (names7_row _ hPn)
      have f81 := hX84.frozen 1
      have c81 := hX84.cell 1
      simp only [World.size_alloc] at hrow
      have HB4 := Lib.hid hB4
      have HX64 := Lib.hid hX64
      have HX84 := Lib.hid hX84
      clear hB4 hg4 hX64 hX84 hR4 p2
      go_wp2_with fail
      have hxx : w.heap.size ≤ w3.heap.size := by omega
      have HB5 := Lib.hid (HB4.out.own (x := w3.heap.size) (j := 1) HX84.out hxx hxa hxp hxm hxl (.string ⟨(names7[pickN l K.2 7]?.getD []).toArray⟩) HQ.out)
      have HX65 := Lib.hid (HX64.out.far (p := ⟨w3.heap.size, 1, none⟩) (by simp; omega) (.string ⟨(names7[pickN l K.2 7]?.getD []).toArray⟩))
      have HX85 := Lib.hid (HX84.out.set_ 1 (.string ⟨(names7[pickN l K.2 7]?.getD []).toArray⟩))
      obtain ⟨nm, hnm⟩ : ∃ nm, nm = names7[pickN l K.2 7]?.getD [] := ⟨_, rfl⟩
      have hnml : nm.length ≤ 3 := by rw [hnm]; exact names7_len _ hPn
      rw [← hnm] at HB5 HX65 HX85 HNM ⊢
      clear hnm hrow
      obtain ⟨a3, ha3⟩ : ∃ a3, a3 = K.2 + 1 := ⟨_, rfl⟩
      rw [← ha3] at HB5 HNM
      have ha33 : a3 ≤ a + 3 := by omega
      clear ha3
      generalize w4.setCell ⟨w3.heap.size, 1, none⟩ (.string ⟨nm.toArray⟩) = w5 at HB5 HX65 HX85 ⊢
      obtain ⟨x8, hx8⟩ : ∃ x8, x8 = w3.heap.size := ⟨_, rfl⟩
      have hx8w : w.heap.size < x8 := by omega
      rw [← hx8] at HX85 ⊢
      clear hx8
      refine (rkids_any _ _).mono ?_
      rintro e w6 ⟨rfl, hw6⟩
      have hw6 := hw6.symm
      subst hw6
      have hnk := nk_le K.1
      have hnk0 : 0 ≤ nk K.1 := by unfold nk; rw [if_neg (by omega)]; split <;> (try split) <;> decide
      obtain ⟨cnt, hcnt⟩ : ∃ cnt : Nat, nk K.1 = (cnt : Int) := ⟨(nk K.1).toNat, by omega⟩
      have HCN := Lib.hid hcnt
      rw [hcnt]
      clear hnk0
      rw [hcnt] at hnk
      have hx8l := HX85.out.lt
      clear hcnt
      go_wp2_with fail
      go_loopw [9] (fun iv wr => ∃ (r : Nat) (L : List (Fm × Option Addr × Nat)) (A' : Option Addr) (c' : Nat), iv = .int .i64 (r : Int) ∧ L.length + r = cnt ∧ L.map (·.1) = (kidsN g L.length a3).1 ∧ MkL w wr B xa xl xp xm A c l x8 K.1 nm L A' c' (kidsN g L.length a3).2 wr.heap.size) (fun iv _ => (intOf iv).toNat)
      case atStart => exact ⟨cnt, [], none, 0, rfl, by simp, rfl, HB5.out, HX65.out, HX85.out, ⟨rfl, .inl ⟨rfl, rfl⟩⟩, Nat.le_refl _, fun _ => 0, fun _ => 0, fun i x h => by cases h⟩
      case round =>
        obtain ⟨r, L, A', c', rfl, hjr, hLm, hLL⟩ := hrel
        have hszr := hLL.b.g.size
        have x83 := hLL.r8.cell 3
        have m0 := hLL.b.st.m.cell 0
        have HL := Lib.hid hLL
        have HLM := Lib.hid hLm
        clear hLm hLL
        by_cases hr0 : 0 < r
        · have hr0' : (0 : Int) < (r : Int) := by omega
          have hD0 : D ≠ 0 := fun h => by
            have := HLF.out h
            rw [← HKK.out, HCN.out] at this
            omega
          have hwr : IntKind.i64.wrap ((D : Int) - 1) = (D : Int) - 1 := IntWalk.i64_in _ (by omega)
          have HC := Lib.hid (HKI.out hD0 (kidsN g L.length a3).2 wr.drew (HGG.out a3 (by omega) L.length (by omega)) (HL.out.drew hxa hx8w).b.st (HL.out.drew hxa hx8w).b.a)
          go_wp2_with fail
          refine wp_region_noPanic ?_
          refine wp_region_seq (fun W => W.cell? ⟨x8, 3, none⟩ = some (.slice A' L.length c') ∧ W.cell? ⟨xm, 0, none⟩ = some (.func (.func 41) #[] #[.pointer (some ⟨xp, 0, none⟩), .pointer (some ⟨xa, 0, none⟩), .pointer (some ⟨xl, 0, none⟩), .pointer (some ⟨xm, 0, none⟩)])) [0, 1, 2, 3, 4, 5, 6, 7, 8, 9] [0, 1, 2, 3, 4, 8] [9] (by kernel_rfl) (by kernel_rfl) rfl (by kernel_rfl) (by kernel_rfl) (fun _ _ _ _ _ h => h) ?_ (fun hSS => ?_)
          · exact ⟨x83, m0⟩
          clear hSS
          (refine wpSeq_mov rfl rfl ?_; intro o ho; simp only [List.getElem?_toArray, List.getElem?_cons_zero, List.getElem?_cons_succ, Option.some.injEq] at ho; subst ho; refine ⟨?_, Or.inl ⟨by rfl, fun W hSW => ?_⟩, ?_⟩; rotate_left; (focus (go_simp; first | done | with_reducible rfl)); try simp only [Act.put, List.setIfInBounds_toArray, List.set_cons_zero, List.set_cons_succ])
          (refine wpSeq_mov rfl rfl ?_; intro o ho; simp only [List.getElem?_toArray, List.getElem?_cons_zero, List.getElem?_cons_succ, Option.some.injEq] at ho; subst ho; refine ⟨?_, Or.inl ⟨by rfl, fun W hSW => ?_⟩, ?_⟩; rotate_left; (focus (go_simp; first | done | with_reducible rfl)); try simp only [Act.put, List.setIfInBounds_toArray, List.set_cons_zero, List.set_cons_succ])
          (refine wpSeq_mov rfl rfl ?_; intro o ho; simp only [List.getElem?_toArray, List.getElem?_cons_zero, List.getElem?_cons_succ, Option.some.injEq] at ho; subst ho; refine ⟨?_, Or.inl ⟨by rfl, fun W hSW => ?_⟩, ?_⟩; rotate_left; (focus (go_simp; first | done | with_reducible rfl)); try simp only [Act.put, List.setIfInBounds_toArray, List.set_cons_zero, List.set_cons_succ])
          (refine wpSeq_mov rfl rfl ?_; intro o ho; simp only [List.getElem?_toArray, List.getElem?_cons_zero, List.getElem?_cons_succ, Option.some.injEq] at ho; subst ho; refine ⟨?_, Or.inl ⟨by rfl, fun W hSW => ?_⟩, ?_⟩; rotate_left; (focus (go_simp; first | done | with_reducible rfl)); try simp only [Act.put, List.setIfInBounds_toArray, List.set_cons_zero, List.set_cons_succ])
          (refine wpSeq_mov rfl rfl ?_; intro o ho; simp only [List.getElem?_toArray, List.getElem?_cons_zero, List.getElem?_cons_succ, Option.some.injEq] at ho; subst ho; refine ⟨?_, Or.inl ⟨by rfl, fun W hSW => ?_⟩, ?_⟩; rotate_left; (focus (go_simp; first | done | with_reducible rfl)); try simp only [Act.put, List.setIfInBounds_toArray, List.set_cons_zero, List.set_cons_succ])
          (refine wpSeq_fix rfl rfl ?_; intro o ho; simp only [List.getElem?_toArray, List.getElem?_cons_zero, List.getElem?_cons_succ, Option.some.injEq] at ho; subst ho; intro K hK)
          go_simp
          refine HC.out.mono ?_
          rintro e w7 ⟨A1, c1, rfl, hP⟩
          have hL7 := (HL.out.drew hxa hx8w).call hxa hx8w hP.g hP.a
          have HV7 := Lib.hid hP.v
          have hs7 : wr.heap.size ≤ w7.heap.size := hP.g.size
          have HL7 := Lib.hid hL7
          have hxr : x8 < wr.heap.size := HL.out.r8.lt
          have hxmw : xm < x8 := by omega
          have HRW : Hid (∀ k, (Value.slice A' L.length c').ownBlock = some k → x8 < k ∧ k < wr.heap.size) := Lib.hid fun k hk => by
            have := HL.out.o.lt k hk
            omega
          clear hP hL7 x83 m0
          unfold fmA
          (refine hK.out _ _ (fun _ => ⟨HL7.out.r8.cell 3, HL7.out.b.st.m.cell 0⟩) ?_; clear hK K; try simp only [Act.put, List.setIfInBounds_toArray, List.set_cons_zero, List.set_cons_succ])
          (refine wpSeq_fix rfl rfl ?_; intro o ho; simp only [List.getElem?_toArray, List.getElem?_cons_zero, List.getElem?_cons_succ, Option.some.injEq] at ho; subst ho; intro K hK)
          go_simp
          (refine hK.out _ _ (fun _ => ⟨(HL7.out.r8.alloc _).cell 3, (HL7.out.b.st.m.alloc _).cell 0⟩) ?_; clear hK K; try simp only [Act.put, List.setIfInBounds_toArray, List.set_cons_zero, List.set_cons_succ])
          (refine wpSeq_fix rfl rfl ?_; intro o ho; simp only [List.getElem?_toArray, List.getElem?_cons_zero, List.getElem?_cons_succ, Option.some.injEq] at ho; subst ho; intro K hK)
          refine step_append_fm rfl (.tmp 46) (.tmp 51) rfl (x8 + 1) L (.slice A' L.length c') rfl (own_below HL7.out.o (stepA w7 (.cells #[.int .i64 (g (kidsN g L.length a3).2).1.kind, .string ⟨(g (kidsN g L.length a3).2).1.name.toArray⟩, .int .i64 (g (kidsN g L.length a3).2).1.lit, .slice A1 (g (kidsN g L.length a3).2).1.kids.length c1] 37))) w7.heap.size (g (kidsN g L.length a3).2).1 A1 c1 rfl (Blk.new _ _ _) (by omega) (by simp; omega) ?_
          intro A2 c2 w9 ho9 hc9 hg9 hat9
          have HL9 := Lib.hid (HL7.out.push hxa hxp hxm hxl hx8w HQ.out hxr hs7 (Nat.le_refl _) (fun k hk => (HRW.out k hk).2) HV7.out ho9 hg9 hat9)
          have h89 := (HL7.out.r8.alloc (.cells #[.int .i64 (g (kidsN g L.length a3).2).1.kind, .string ⟨(g (kidsN g L.length a3).2).1.name.toArray⟩, .int .i64 (g (kidsN g L.length a3).2).1.lit, .slice A1 (g (kidsN g L.length a3).2).1.kids.length c1] 37)).grown hg9 (fun e => by have := (HRW.out x8 e.symm).1; omega)
          have hm9 := (HL7.out.b.st.m.alloc (.cells #[.int .i64 (g (kidsN g L.length a3).2).1.kind, .string ⟨(g (kidsN g L.length a3).2).1.name.toArray⟩, .int .i64 (g (kidsN g L.length a3).2).1.lit, .slice A1 (g (kidsN g L.length a3).2).1.kids.length c1] 37)).grown hg9 (fun e => by have := (HRW.out xm e.symm).1; omega)
          have q83 := h89.cell 3
          have qf3 := h89.frozen 3
          have HQQ := Lib.hid (And.intro (h89.cell 3) (hm9.cell 0))
          clear h89 hm9 ho9 hg9 hat9
          (refine hK.out _ _ (fun _ => HQQ.out) ?_; clear hK K; try simp only [Act.put, List.setIfInBounds_toArray, List.set_cons_zero, List.set_cons_succ])
          (refine wpSeq_mov rfl rfl ?_; intro o ho; simp only [List.getElem?_toArray, List.getElem?_cons_zero, List.getElem?_cons_succ, Option.some.injEq] at ho; subst ho; refine ⟨?_, Or.inl ⟨by rfl, fun W hSW => ?_⟩, ?_⟩; rotate_left; (focus (go_simp; first | done | with_reducible rfl)); try simp only [Act.put, List.setIfInBounds_toArray, List.set_cons_zero, List.set_cons_succ])
          (refine wpSeq_fix rfl rfl ?_; intro o ho; simp only [List.getElem?_toArray, List.getElem?_cons_zero, List.getElem?_cons_succ, Option.some.injEq] at ho; subst ho; intro K hK)
          go_simp
          (refine hK.out _ _ (fun h => by simp at h) ?_; clear hK K; try simp only [Act.put, List.setIfInBounds_toArray, List.set_cons_zero, List.set_cons_succ])
          refine wpSeq_done ?_
          go_wp2_with fail
          go_roundw
          case rel =>
            have hsn : (L ++ [((g (kidsN g L.length a3).2).1, A1, c1)]).length = L.length + 1 := by simp
            refine ⟨r - 1, L ++ [((g (kidsN g L.length a3).2).1, A1, c1)], A2, c2, ?_, by rw [hsn]; omega, ?_, ?_⟩
            · congr 1
              omega
            · rw [hsn, kidsN_snoc, List.map_append, HLM.out]
              rfl
            · rw [hsn, kidsN_snoc]
              exact HL9.out
          case measure => simp [intOf]; omega
        · have hr0' : ¬ (0 : Int) < (r : Int) := by omega
          have x80 := HL.out.r8.cell 0
          have x81 := HL.out.r8.cell 1
          have x82 := HL.out.r8.cell 2
          have y0 := HL.out.r6.cell 0
          have y1 := HL.out.r6.cell 1
          have y2 := HL.out.r6.cell 2
          have y3 := HL.out.r6.cell 3
          have yf0 := HL.out.r6.frozen 0
          have yf1 := HL.out.r6.frozen 1
          have yf2 := HL.out.r6.frozen 2
          have yf3 := HL.out.r6.frozen 3
          go_wp2_with fail
          have hZ := (((HL.out.r6.set_ 0 (.int .i64 K.1)).set_ 1 (.string ⟨nm.toArray⟩)).set_ 2 (.int .i64 0)).set_ 3 (.slice A' L.length c')
          have z0 := hZ.cell 0
          have z1 := hZ.cell 1
          have z2 := hZ.cell 2
          have z3 := hZ.cell 3
          refine bodyPost_ret (v := .agg #[.int .i64 K.1, .string ⟨nm.toArray⟩, .int .i64 0, .slice A' L.length c']) (by simp [results, Tryd.results41, go_sem, z0, z1, z2, z3]) rfl ?_
          have hcr : L.length = cnt := by omega
          have hres : mkStep l D a g = (.mk K.1 nm 0 (L.map (·.1)), (kidsN g L.length a3).2) := by
            unfold mkStep
            rw [← HKK.out, HNM.out, HCN.out, HLM.out, hcr]
            rfl
          rw [hres]
          refine ⟨A', c', by simp [fmA, Fm.kind, Fm.name, Fm.lit, Fm.kids], ?_⟩
          exact HL.out.done hxa hx8w (by omega) ⟨hK1, hK18⟩ hnml (grown_set (grown_set (grown_set (grown_set (World.grownBy.refl _ _) _ _) _ _) _ _) _ _)
    · have h3k : (K.1 == 3) = false := by simp [h3]
      have HNM : Hid (nameF l K.1 K.2 = ([], K.2)) := Lib.hid (by unfold nameF; rw [if_neg h3])
      clear h3
      go_wp2_with fail
      have HB5 := HBa
      have HX65 := HX6a
      have HX85 := HX8a
      obtain ⟨a3, ha3⟩ : ∃ a3, a3 = K.2 := ⟨_, rfl⟩
      rw [← ha3] at HB5
      replace HNM : Hid (nameF l K.1 K.2 = ([], a3)) := Lib.hid (by rw [ha3]; exact HNM.out)
      have ha33 : a3 ≤ a + 3 := by omega
      clear ha3
      obtain ⟨nm, hnm⟩ : ∃ nm : List UInt8, nm = [] := ⟨_, rfl⟩
      have hnml : nm.length ≤ 3 := by rw [hnm]; decide
      rw [← hnm] at HNM
      have HX85 : Hid (Blk _ w3.heap.size 37 #[.int .i64 K.1, .string ⟨nm.toArray⟩, .int .i64 0, .slice none 0 0]) := Lib.hid (by rw [hnm]; exact HX85.out)
      clear hnm
      generalize w3.alloc (.cells #[.int .i64 K.1, .string ⟨#[]⟩, .int .i64 0, .slice none 0 0] 37) = w5 at HB5 HX65 HX85 ⊢
      obtain ⟨x8, hx8⟩ : ∃ x8, x8 = w3.heap.size := ⟨_, rfl⟩
      have hx8w : w.heap.size < x8 := by omega
      rw [← hx8] at HX85 ⊢
      clear hx8
      refine (rkids_any _ _).mono ?_
      rintro e w6 ⟨rfl, hw6⟩
      have hw6 := hw6.symm
      subst hw6
      have hnk := nk_le K.1
      have hnk0 : 0 ≤ nk K.1 := by unfold nk; rw [if_neg (by omega)]; split <;> (try split) <;> decide
      obtain ⟨cnt, hcnt⟩ : ∃ cnt : Nat, nk K.1 = (cnt : Int) := ⟨(nk K.1).toNat, by omega⟩
      have HCN := Lib.hid hcnt
      rw [hcnt]
      clear hnk0
      rw [hcnt] at hnk
      have hx8l := HX85.out.lt
      clear hcnt
      go_wp2_with fail
      go_loopw [9] (fun iv wr => ∃ (r : Nat) (L : List (Fm × Option Addr × Nat)) (A' : Option Addr) (c' : Nat), iv = .int .i64 (r : Int) ∧ L.length + r = cnt ∧ L.map (·.1) = (kidsN g L.length a3).1 ∧ MkL w wr B xa xl xp xm A c l x8 K.1 nm L A' c' (kidsN g L.length a3).2 wr.heap.size) (fun iv _ => (intOf iv).toNat)
      case atStart => exact ⟨cnt, [], none, 0, rfl, by simp, rfl, HB5.out, HX65.out, HX85.out, ⟨rfl, .inl ⟨rfl, rfl⟩⟩, Nat.le_refl _, fun _ => 0, fun _ => 0, fun i x h => by cases h⟩
      case round =>
        obtain ⟨r, L, A', c', rfl, hjr, hLm, hLL⟩ := hrel
        have hszr := hLL.b.g.size
        have x83 := hLL.r8.cell 3
        have m0 := hLL.b.st.m.cell 0
        have HL := Lib.hid hLL
        have HLM := Lib.hid hLm
        clear hLm hLL
        by_cases hr0 : 0 < r
        · have hr0' : (0 : Int) < (r : Int) := by omega
          have hD0 : D ≠ 0 := fun h => by
            have := HLF.out h
            rw [← HKK.out, HCN.out] at this
            omega
          have hwr : IntKind.i64.wrap ((D : Int) - 1) = (D : Int) - 1 := IntWalk.i64_in _ (by omega)
          have HC := Lib.hid (HKI.out hD0 (kidsN g L.length a3).2 wr.drew (HGG.out a3 (by omega) L.length (by omega)) (HL.out.drew hxa hx8w).b.st (HL.out.drew hxa hx8w).b.a)
          go_wp2_with fail
          refine wp_region_noPanic ?_
          refine wp_region_seq (fun W => W.cell? ⟨x8, 3, none⟩ = some (.slice A' L.length c') ∧ W.cell? ⟨xm, 0, none⟩ = some (.func (.func 41) #[] #[.pointer (some ⟨xp, 0, none⟩), .pointer (some ⟨xa, 0, none⟩), .pointer (some ⟨xl, 0, none⟩), .pointer (some ⟨xm, 0, none⟩)])) [0, 1, 2, 3, 4, 5, 6, 7, 8, 9] [0, 1, 2, 3, 4, 8] [9] (by kernel_rfl) (by kernel_rfl) rfl (by kernel_rfl) (by kernel_rfl) (fun _ _ _ _ _ h => h) ?_ (fun hSS => ?_)
          · exact ⟨x83, m0⟩
          clear hSS
          (refine wpSeq_mov rfl rfl ?_; intro o ho; simp only [List.getElem?_toArray, List.getElem?_cons_zero, List.getElem?_cons_succ, Option.some.injEq] at ho; subst ho; refine ⟨?_, Or.inl ⟨by rfl, fun W hSW => ?_⟩, ?_⟩; rotate_left; (focus (go_simp; first | done | with_reducible rfl)); try simp only [Act.put, List.setIfInBounds_toArray, List.set_cons_zero, List.set_cons_succ])
          (refine wpSeq_mov rfl rfl ?_; intro o ho; simp only [List.getElem?_toArray, List.getElem?_cons_zero, List.getElem?_cons_succ, Option.some.injEq] at ho; subst ho; refine ⟨?_, Or.inl ⟨by rfl, fun W hSW => ?_⟩, ?_⟩; rotate_left; (focus (go_simp; first | done | with_reducible rfl)); try simp only [Act.put, List.setIfInBounds_toArray, List.set_cons_zero, List.set_cons_succ])
          (refine wpSeq_mov rfl rfl ?_; intro o ho; simp only [List.getElem?_toArray, List.getElem?_cons_zero, List.getElem?_cons_succ, Option.some.injEq] at ho; subst ho; refine ⟨?_, Or.inl ⟨by rfl, fun W hSW => ?_⟩, ?_⟩; rotate_left; (focus (go_simp; first | done | with_reducible rfl)); try simp only [Act.put, List.setIfInBounds_toArray, List.set_cons_zero, List.set_cons_succ])
          (refine wpSeq_mov rfl rfl ?_; intro o ho; simp only [List.getElem?_toArray, List.getElem?_cons_zero, List.getElem?_cons_succ, Option.some.injEq] at ho; subst ho; refine ⟨?_, Or.inl ⟨by rfl, fun W hSW => ?_⟩, ?_⟩; rotate_left; (focus (go_simp; first | done | with_reducible rfl)); try simp only [Act.put, List.setIfInBounds_toArray, List.set_cons_zero, List.set_cons_succ])
          (refine wpSeq_mov rfl rfl ?_; intro o ho; simp only [List.getElem?_toArray, List.getElem?_cons_zero, List.getElem?_cons_succ, Option.some.injEq] at ho; subst ho; refine ⟨?_, Or.inl ⟨by rfl, fun W hSW => ?_⟩, ?_⟩; rotate_left; (focus (go_simp; first | done | with_reducible rfl)); try simp only [Act.put, List.setIfInBounds_toArray, List.set_cons_zero, List.set_cons_succ])
          (refine wpSeq_fix rfl rfl ?_; intro o ho; simp only [List.getElem?_toArray, List.getElem?_cons_zero, List.getElem?_cons_succ, Option.some.injEq] at ho; subst ho; intro K hK)
          go_simp
          refine HC.out.mono ?_
          rintro e w7 ⟨A1, c1, rfl, hP⟩
          have hL7 := (HL.out.drew hxa hx8w).call hxa hx8w hP.g hP.a
          have HV7 := Lib.hid hP.v
          have hs7 : wr.heap.size ≤ w7.heap.size := hP.g.size
          have HL7 := Lib.hid hL7
          have hxr : x8 < wr.heap.size := HL.out.r8.lt
          have hxmw : xm < x8 := by omega
          have HRW : Hid (∀ k, (Value.slice A' L.length c').ownBlock = some k → x8 < k ∧ k < wr.heap.size) := Lib.hid fun k hk => by
            have := HL.out.o.lt k hk
            omega
          clear hP hL7 x83 m0
          unfold fmA
          (refine hK.out _ _ (fun _ => ⟨HL7.out.r8.cell 3, HL7.out.b.st.m.cell 0⟩) ?_; clear hK K; try simp only [Act.put, List.setIfInBounds_toArray, List.set_cons_zero, List.set_cons_succ])
          (refine wpSeq_fix rfl rfl ?_; intro o ho; simp only [List.getElem?_toArray, List.getElem?_cons_zero, List.getElem?_cons_succ, Option.some.injEq] at ho; subst ho; intro K hK)
          go_simp
          (refine hK.out _ _ (fun _ => ⟨(HL7.out.r8.alloc _).cell 3, (HL7.out.b.st.m.alloc _).cell 0⟩) ?_; clear hK K; try simp only [Act.put, List.setIfInBounds_toArray, List.set_cons_zero, List.set_cons_succ])
          (refine wpSeq_fix rfl rfl ?_; intro o ho; simp only [List.getElem?_toArray, List.getElem?_cons_zero, List.getElem?_cons_succ, Option.some.injEq] at ho; subst ho; intro K hK)
          refine step_append_fm rfl (.tmp 46) (.tmp 51) rfl (x8 + 1) L (.slice A' L.length c') rfl (own_below HL7.out.o (stepA w7 (.cells #[.int .i64 (g (kidsN g L.length a3).2).1.kind, .string ⟨(g (kidsN g L.length a3).2).1.name.toArray⟩, .int .i64 (g (kidsN g L.length a3).2).1.lit, .slice A1 (g (kidsN g L.length a3).2).1.kids.length c1] 37))) w7.heap.size (g (kidsN g L.length a3).2).1 A1 c1 rfl (Blk.new _ _ _) (by omega) (by simp; omega) ?_
          intro A2 c2 w9 ho9 hc9 hg9 hat9
          have HL9 := Lib.hid (HL7.out.push hxa hxp hxm hxl hx8w HQ.out hxr hs7 (Nat.le_refl _) (fun k hk => (HRW.out k hk).2) HV7.out ho9 hg9 hat9)
          have h89 := (HL7.out.r8.alloc (.cells #[.int .i64 (g (kidsN g L.length a3).2).1.kind, .string ⟨(g (kidsN g L.length a3).2).1.name.toArray⟩, .int .i64 (g (kidsN g L.length a3).2).1.lit, .slice A1 (g (kidsN g L.length a3).2).1.kids.length c1] 37)).grown hg9 (fun e => by have := (HRW.out x8 e.symm).1; omega)
          have hm9 := (HL7.out.b.st.m.alloc (.cells #[.int .i64 (g (kidsN g L.length a3).2).1.kind, .string ⟨(g (kidsN g L.length a3).2).1.name.toArray⟩, .int .i64 (g (kidsN g L.length a3).2).1.lit, .slice A1 (g (kidsN g L.length a3).2).1.kids.length c1] 37)).grown hg9 (fun e => by have := (HRW.out xm e.symm).1; omega)
          have q83 := h89.cell 3
          have qf3 := h89.frozen 3
          have HQQ := Lib.hid (And.intro (h89.cell 3) (hm9.cell 0))
          clear h89 hm9 ho9 hg9 hat9
          (refine hK.out _ _ (fun _ => HQQ.out) ?_; clear hK K; try simp only [Act.put, List.setIfInBounds_toArray, List.set_cons_zero, List.set_cons_succ])
          (refine wpSeq_mov rfl rfl ?_; intro o ho; simp only [List.getElem?_toArray, List.getElem?_cons_zero, List.getElem?_cons_succ, Option.some.injEq] at ho; subst ho; refine ⟨?_, Or.inl ⟨by rfl, fun W hSW => ?_⟩, ?_⟩; rotate_left; (focus (go_simp; first | done | with_reducible rfl)); try simp only [Act.put, List.setIfInBounds_toArray, List.set_cons_zero, List.set_cons_succ])
          (refine wpSeq_fix rfl rfl ?_; intro o ho; simp only [List.getElem?_toArray, List.getElem?_cons_zero, List.getElem?_cons_succ, Option.some.injEq] at ho; subst ho; intro K hK)
          go_simp
          (refine hK.out _ _ (fun h => by simp at h) ?_; clear hK K; try simp only [Act.put, List.setIfInBounds_toArray, List.set_cons_zero, List.set_cons_succ])
          refine wpSeq_done ?_
          go_wp2_with fail
          go_roundw
          case rel =>
            have hsn : (L ++ [((g (kidsN g L.length a3).2).1, A1, c1)]).length = L.length + 1 := by simp
            refine ⟨r - 1, L ++ [((g (kidsN g L.length a3).2).1, A1, c1)], A2, c2, ?_, by rw [hsn]; omega, ?_, ?_⟩
            · congr 1
              omega
            · rw [hsn, kidsN_snoc, List.map_append, HLM.out]
              rfl
            · rw [hsn, kidsN_snoc]
              exact HL9.out
          case measure => simp [intOf]; omega
        · have hr0' : ¬ (0 : Int) < (r : Int) := by omega
          have x80 := HL.out.r8.cell 0
          have x81 := HL.out.r8.cell 1
          have x82 := HL.out.r8.cell 2
          have y0 := HL.out.r6.cell 0
          have y1 := HL.out.r6.cell 1
          have y2 := HL.out.r6.cell 2
          have y3 := HL.out.r6.cell 3
          have yf0 := HL.out.r6.frozen 0
          have yf1 := HL.out.r6.frozen 1
          have yf2 := HL.out.r6.frozen 2
          have yf3 := HL.out.r6.frozen 3
          go_wp2_with fail
          have hZ := (((HL.out.r6.set_ 0 (.int .i64 K.1)).set_ 1 (.string ⟨nm.toArray⟩)).set_ 2 (.int .i64 0)).set_ 3 (.slice A' L.length c')
          have z0 := hZ.cell 0
          have z1 := hZ.cell 1
          have z2 := hZ.cell 2
          have z3 := hZ.cell 3
          refine bodyPost_ret (v := .agg #[.int .i64 K.1, .string ⟨nm.toArray⟩, .int .i64 0, .slice A' L.length c']) (by simp [results, Tryd.results41, go_sem, z0, z1, z2, z3]) rfl ?_
          have hcr : L.length = cnt := by omega
          have hres : mkStep l D a g = (.mk K.1 nm 0 (L.map (·.1)), (kidsN g L.length a3).2) := by
            unfold mkStep
            rw [← HKK.out, HNM.out, HCN.out, HLM.out, hcr]
            rfl
          rw [hres]
          refine ⟨A', c', by simp [fmA, Fm.kind, Fm.name, Fm.lit, Fm.kids], ?_⟩
          exact HL.out.done hxa hx8w (by omega) ⟨hK1, hK18⟩ hnml (grown_set (grown_set (grown_set (grown_set (World.grownBy.refl _ _) _ _) _ _) _ _) _ _)
  by_cases h30 : 30 < a + 1
  · skip
    have hcond : D = 0 ∨ l.length ≤ a + 1 ∨ 30 < a + 1 := .inr (.inr h30)
    have hKe : 3 - (pickN l (a + 1) 7 : Int) / 5 = K.1 := by rw [HKK.out]; unfold kindF; rw [if_pos hcond]; rfl
    have hKf : K.2 = a + 2 := by rw [HKK.out]; unfold kindF; rw [if_pos hcond]
    have hP7 := pickN_lt l (a + 1) 7 (by decide)
    have t5 : Int.tdiv (pickN l (a + 1) 7 : Int) 5 = ((pickN l (a + 1) 7 / 5 : Nat) : Int) := by rw [Int.tdiv_eq_ediv_of_nonneg (by omega)]; omega
    have HKF := Lib.hid hKf
    clear hcond hKf
    go_wp2_with fail
    refine (pick_step l (a := a + 1) (.inr rfl) (by omega) hl hc HB2.out).mono ?_
    rintro e w3 ⟨rfl, hB3, hg3⟩
    have HB3 : Hid (MkB w w3 B xa xl xp xm A c l K.2) := Lib.hid (by rw [HKF.out]; exact hB3)
    have HX63 := Lib.hid (HX62.out.grown hg3 (by simp; omega))
    have hs3 := hg3.size
    clear hB3 hg3 a0 l0 p1
    have hb8 := stepA w3 (.cells #[.int .i64 K.1, .string ⟨#[]⟩, .int .i64 0, .slice none 0 0] 37)
    have HBa := Lib.hid (HB3.out.after hb8)
    have HX6a := Lib.hid (HX63.out.alloc (.cells #[.int .i64 K.1, .string ⟨#[]⟩, .int .i64 0, .slice none 0 0] 37))
    have HX8a := Lib.hid (Blk.new w3 37 #[.int .i64 K.1, .string ⟨#[]⟩, .int .i64 0, .slice none 0 0])
    clear hb8
    by_cases h3 : K.1 = 3
    · have h3k : (K.1 == 3) = true := by simp [h3]
      have hb9 := stepA (w3.alloc (.cells #[.int .i64 K.1, .string ⟨#[]⟩, .int .i64 0, .slice none 0 0] 37)) (.cells #[.string ⟨#[113]⟩, .string ⟨#[108, 48]⟩, .string ⟨#[111, 117, 116]⟩, .string ⟨#[108, 49]⟩, .string ⟨#[105, 48]⟩, .string ⟨#[111, 48]⟩, .string ⟨#[97, 45, 98]⟩] 9)
      have HBb := Lib.hid (HBa.out.after hb9)
      have HX6b := Lib.hid (HX6a.out.alloc (.cells #[.string ⟨#[113]⟩, .string ⟨#[108, 48]⟩, .string ⟨#[111, 117, 116]⟩, .string ⟨#[108, 49]⟩, .string ⟨#[105, 48]⟩, .string ⟨#[111, 48]⟩, .string ⟨#[97, 45, 98]⟩] 9))
      have HX8b := Lib.hid (HX8a.out.alloc (.cells #[.string ⟨#[113]⟩, .string ⟨#[108, 48]⟩, .string ⟨#[111, 117, 116]⟩, .string ⟨#[108, 49]⟩, .string ⟨#[105, 48]⟩, .string ⟨#[111, 48]⟩, .string ⟨#[97, 45, 98]⟩] 9))
      have HRb := Lib.hid (Blk.new (w3.alloc (.cells #[.int .i64 K.1, .string ⟨#[]⟩, .int .i64 0, .slice none 0 0] 37)) 9 #[.string ⟨#[113]⟩, .string ⟨#[108, 48]⟩, .string ⟨#[111, 117, 116]⟩, .string ⟨#[108, 49]⟩, .string ⟨#[105, 48]⟩, .string ⟨#[111, 48]⟩, .string ⟨#[97, 45, 98]⟩])
      have p2 := HBb.out.st.p.cell 0
      have HNM : Hid (nameF l K.1 K.2 = (names7[pickN l K.2 7]?.getD [], K.2 + 1)) := Lib.hid (by unfold nameF; rw [if_pos h3])
      clear hb9 h3
      go_wp2_with fail
      refine (pick_step l (a := K.2) (.inr rfl) (by omega) hl hc HBb.out).mono ?_
      rintro e w4 ⟨rfl, hB4, hg4⟩
      have hx8ne : w3.heap.size ≠ xa := by omega
      have hX64 := HX6b.out.grown hg4 (by simp; omega)
      have hX84 := HX8b.out.grown hg4 (by simp; omega)
      have hR4 := HRb.out.grown hg4 (by simp; omega)
      have hPn := pickN_lt l K.2 7 (by decide)
      have hrow := (hR4.cell (pickN l K.2 7)).trans (names7_row _ hPn)
      have f81 := hX84.frozen 1
      have c81 := hX84.cell 1
      simp only [World.size_alloc] at hrow
      have HB4 := Lib.hid hB4
      have HX64 := Lib.hid hX64
      have HX84 := Lib.hid hX84
      clear hB4 hg4 hX64 hX84 hR4 p2
      go_wp2_with fail
      have hxx : w.heap.size ≤ w3.heap.size := by omega
      have HB5 := Lib.hid (HB4.out.own (x := w3.heap.size) (j := 1) HX84.out hxx hxa hxp hxm hxl (.string ⟨(names7[pickN l K.2 7]?.getD []).toArray⟩) HQ.out)
      have HX65 := Lib.hid (HX64.out.far (p := ⟨w3.heap.size, 1, none⟩) (by simp; omega) (.string ⟨(names7[pickN l K.2 7]?.getD []).toArray⟩))
      have HX85 := Lib.hid (HX84.out.set_ 1 (.string ⟨(names7[pickN l K.2 7]?.getD []).toArray⟩))
      obtain ⟨nm, hnm⟩ : ∃ nm, nm = names7[pickN l K.2 7]?.getD [] := ⟨_, rfl⟩
      have hnml : nm.length ≤ 3 := by rw [hnm]; exact names7_len _ hPn
      rw [← hnm] at HB5 HX65 HX85 HNM ⊢
      clear hnm hrow
      obtain ⟨a3, ha3⟩ : ∃ a3, a3 = K.2 + 1 := ⟨_, rfl⟩
      rw [← ha3] at HB5 HNM
      have ha33 : a3 ≤ a + 3 := by omega
      clear ha3
      generalize w4.setCell ⟨w3.heap.size, 1, none⟩ (.string ⟨nm.toArray⟩) = w5 at HB5 HX65 HX85 ⊢
      obtain ⟨x8, hx8⟩ : ∃ x8, x8 = w3.heap.size := ⟨_, rfl⟩
      have hx8w : w.heap.size < x8 := by omega
      rw [← hx8] at HX85 ⊢
      clear hx8
      refine (rkids_any _ _).mono ?_
      rintro e w6 ⟨rfl, hw6⟩
      have hw6 := hw6.symm
      subst hw6
      have hnk := nk_le K.1
      have hnk0 : 0 ≤ nk K.1 := by unfold nk; rw [if_neg (by omega)]; split <;> (try split) <;> decide
      obtain ⟨cnt, hcnt⟩ : ∃ cnt : Nat, nk K.1 = (cnt : Int) := ⟨(nk K.1).toNat, by omega⟩
      have HCN := Lib.hid hcnt
      rw [hcnt]
      clear hnk0
      rw [hcnt] at hnk
      have hx8l := HX85.out.lt
      clear hcnt
      go_wp2_with fail
      go_loopw [9] (fun iv wr => ∃ (r : Nat) (L : List (Fm × Option Addr × Nat)) (A' : Option Addr) (c' : Nat), iv = .int .i64 (r : Int) ∧ L.length + r = cnt ∧ L.map (·.1) = (kidsN g L.length a3).1 ∧ MkL w wr B xa xl xp xm A c l x8 K.1 nm L A' c' (kidsN g L.length a3).2 wr.heap.size) (fun iv _ => (intOf iv).toNat)
      case atStart => exact ⟨cnt, [], none, 0, rfl, by simp, rfl, HB5.out, HX65.out, HX85.out, ⟨rfl, .inl ⟨rfl, rfl⟩⟩, Nat.le_refl _, fun _ => 0, fun _ => 0, fun i x h => by cases h⟩
      case round =>
        obtain ⟨r, L, A', c', rfl, hjr, hLm, hLL⟩ := hrel
        have hszr := hLL.b.g.size
        have x83 := hLL.r8.cell 3
        have m0 := hLL.b.st.m.cell 0
        have HL := Lib.hid hLL
        have HLM := Lib.hid hLm
        clear hLm hLL
        by_cases hr0 : 0 < r
        · have hr0' : (0 : Int) < (r : Int) := by omega
          have hD0 : D ≠ 0 := fun h => by
            have := HLF.out h
            rw [← HKK.out, HCN.out] at this
            omega
          have hwr : IntKind.i64.wrap ((D : Int) - 1) = (D : Int) - 1 := IntWalk.i64_in _ (by omega)
          have HC := Lib.hid (HKI.out hD0 (kidsN g L.length a3).2 wr.drew (HGG.out a3 (by omega) L.length (by omega)) (HL.out.drew hxa hx8w).b.st (HL.out.drew hxa hx8w).b.a)
          go_wp2_with fail
          refine wp_region_noPanic ?_
          refine wp_region_seq (fun W => W.cell? ⟨x8, 3, none⟩ = some (.slice A' L.length c') ∧ W.cell? ⟨xm, 0, none⟩ = some (.func (.func 41) #[] #[.pointer (some ⟨xp, 0, none⟩), .pointer (some ⟨xa, 0, none⟩), .pointer (some ⟨xl, 0, none⟩), .pointer (some ⟨xm, 0, none⟩)])) [0, 1, 2, 3, 4, 5, 6, 7, 8, 9] [0, 1, 2, 3, 4, 8] [9] (by kernel_rfl) (by kernel_rfl) rfl (by kernel_rfl) (by kernel_rfl) (fun _ _ _ _ _ h => h) ?_ (fun hSS => ?_)
          · exact ⟨x83, m0⟩
          clear hSS
          (refine wpSeq_mov rfl rfl ?_; intro o ho; simp only [List.getElem?_toArray, List.getElem?_cons_zero, List.getElem?_cons_succ, Option.some.injEq] at ho; subst ho; refine ⟨?_, Or.inl ⟨by rfl, fun W hSW => ?_⟩, ?_⟩; rotate_left; (focus (go_simp; first | done | with_reducible rfl)); try simp only [Act.put, List.setIfInBounds_toArray, List.set_cons_zero, List.set_cons_succ])
          (refine wpSeq_mov rfl rfl ?_; intro o ho; simp only [List.getElem?_toArray, List.getElem?_cons_zero, List.getElem?_cons_succ, Option.some.injEq] at ho; subst ho; refine ⟨?_, Or.inl ⟨by rfl, fun W hSW => ?_⟩, ?_⟩; rotate_left; (focus (go_simp; first | done | with_reducible rfl)); try simp only [Act.put, List.setIfInBounds_toArray, List.set_cons_zero, List.set_cons_succ])
          (refine wpSeq_mov rfl rfl ?_; intro o ho; simp only [List.getElem?_toArray, List.getElem?_cons_zero, List.getElem?_cons_succ, Option.some.injEq] at ho; subst ho; refine ⟨?_, Or.inl ⟨by rfl, fun W hSW => ?_⟩, ?_⟩; rotate_left; (focus (go_simp; first | done | with_reducible rfl)); try simp only [Act.put, List.setIfInBounds_toArray, List.set_cons_zero, List.set_cons_succ])
          (refine wpSeq_mov rfl rfl ?_; intro o ho; simp only [List.getElem?_toArray, List.getElem?_cons_zero, List.getElem?_cons_succ, Option.some.injEq] at ho; subst ho; refine ⟨?_, Or.inl ⟨by rfl, fun W hSW => ?_⟩, ?_⟩; rotate_left; (focus (go_simp; first | done | with_reducible rfl)); try simp only [Act.put, List.setIfInBounds_toArray, List.set_cons_zero, List.set_cons_succ])
          (refine wpSeq_mov rfl rfl ?_; intro o ho; simp only [List.getElem?_toArray, List.getElem?_cons_zero, List.getElem?_cons_succ, Option.some.injEq] at ho; subst ho; refine ⟨?_, Or.inl ⟨by rfl, fun W hSW => ?_⟩, ?_⟩; rotate_left; (focus (go_simp; first | done | with_reducible rfl)); try simp only [Act.put, List.setIfInBounds_toArray, List.set_cons_zero, List.set_cons_succ])
          (refine wpSeq_fix rfl rfl ?_; intro o ho; simp only [List.getElem?_toArray, List.getElem?_cons_zero, List.getElem?_cons_succ, Option.some.injEq] at ho; subst ho; intro K hK)
          go_simp
          refine HC.out.mono ?_
          rintro e w7 ⟨A1, c1, rfl, hP⟩
          have hL7 := (HL.out.drew hxa hx8w).call hxa hx8w hP.g hP.a
          have HV7 := Lib.hid hP.v
          have hs7 : wr.heap.size ≤ w7.heap.size := hP.g.size
          have HL7 := Lib.hid hL7
          have hxr : x8 < wr.heap.size := HL.out.r8.lt
          have hxmw : xm < x8 := by omega
          have HRW : Hid (∀ k, (Value.slice A' L.length c').ownBlock = some k → x8 < k ∧ k < wr.heap.size) := Lib.hid fun k hk => by
            have := HL.out.o.lt k hk
            omega
          clear hP hL7 x83 m0
          unfold fmA
          (refine hK.out _ _ (fun _ => ⟨HL7.out.r8.cell 3, HL7.out.b.st.m.cell 0⟩) ?_; clear hK K; try simp only [Act.put, List.setIfInBounds_toArray, List.set_cons_zero, List.set_cons_succ])
          (refine wpSeq_fix rfl rfl ?_; intro o ho; simp only [List.getElem?_toArray, List.getElem?_cons_zero, List.getElem?_cons_succ, Option.some.injEq] at ho; subst ho; intro K hK)
          go_simp
          (refine hK.out _ _ (fun _ => ⟨(HL7.out.r8.alloc _).cell 3, (HL7.out.b.st.m.alloc _).cell 0⟩) ?_; clear hK K; try simp only [Act.put, List.setIfInBounds_toArray, List.set_cons_zero, List.set_cons_succ])
          (refine wpSeq_fix rfl rfl ?_; intro o ho; simp only [List.getElem?_toArray, List.getElem?_cons_zero, List.getElem?_cons_succ, Option.some.injEq] at ho; subst ho; intro K hK)
          refine step_append_fm rfl (.tmp 46) (.tmp 51) rfl (x8 + 1) L (.slice A' L.length c') rfl (own_below HL7.out.o (stepA w7 (.cells #[.int .i64 (g (kidsN g L.length a3).2).1.kind, .string ⟨(g (kidsN g L.length a3).2).1.name.toArray⟩, .int .i64 (g (kidsN g L.length a3).2).1.lit, .slice A1 (g (kidsN g L.length a3).2).1.kids.length c1] 37))) w7.heap.size (g (kidsN g L.length a3).2).1 A1 c1 rfl (Blk.new _ _ _) (by omega) (by simp; omega) ?_
          intro A2 c2 w9 ho9 hc9 hg9 hat9
          have HL9 := Lib.hid (HL7.out.push hxa hxp hxm hxl hx8w HQ.out hxr hs7 (Nat.le_refl _) (fun k hk => (HRW.out k hk).2) HV7.out ho9 hg9 hat9)
          have h89 := (HL7.out.r8.alloc (.cells #[.int .i64 (g (kidsN g L.length a3).2).1.kind, .string ⟨(g (kidsN g L.length a3).2).1.name.toArray⟩, .int .i64 (g (kidsN g L.length a3).2).1.lit, .slice A1 (g (kidsN g L.length a3).2).1.kids.length c1] 37)).grown hg9 (fun e => by have := (HRW.out x8 e.symm).1; omega)
          have hm9 := (HL7.out.b.st.m.alloc (.cells #[.int .i64 (g (kidsN g L.length a3).2).1.kind, .string ⟨(g (kidsN g L.length a3).2).1.name.toArray⟩, .int .i64 (g (kidsN g L.length a3).2).1.lit, .slice A1 (g (kidsN g L.length a3).2).1.kids.length c1] 37)).grown hg9 (fun e => by have := (HRW.out xm e.symm).1; omega)
          have q83 := h89.cell 3
          have qf3 := h89.frozen 3
          have HQQ := Lib.hid (And.intro (h89.cell 3) (hm9.cell 0))
          clear h89 hm9 ho9 hg9 hat9
          (refine hK.out _ _ (fun _ => HQQ.out) ?_; clear hK K; try simp only [Act.put, List.setIfInBounds_toArray, List.set_cons_zero, List.set_cons_succ])
          (refine wpSeq_mov rfl rfl ?_; intro o ho; simp only [List.getElem?_toArray, List.getElem?_cons_zero, List.getElem?_cons_succ, Option.some.injEq] at ho; subst ho; refine ⟨?_, Or.inl ⟨by rfl, fun W hSW => ?_⟩, ?_⟩; rotate_left; (focus (go_simp; first | done | with_reducible rfl)); try simp only [Act.put, List.setIfInBounds_toArray, List.set_cons_zero, List.set_cons_succ])
          (refine wpSeq_fix rfl rfl ?_; intro o ho; simp only [List.getElem?_toArray, List.getElem?_cons_zero, List.getElem?_cons_succ, Option.some.injEq] at ho; subst ho; intro K hK)
          go_simp
          (refine hK.out _ _ (fun h => by simp at h) ?_; clear hK K; try simp only [Act.put, List.setIfInBounds_toArray, List.set_cons_zero, List.set_cons_succ])
          refine wpSeq_done ?_
          go_wp2_with fail
          go_roundw
          case rel =>
            have hsn : (L ++ [((g (kidsN g L.length a3).2).1, A1, c1)]).length = L.length + 1 := by simp
            refine ⟨r - 1, L ++ [((g (kidsN g L.length a3).2).1, A1, c1)], A2, c2, ?_, by rw [hsn]; omega, ?_, ?_⟩
            · congr 1
              omega
            · rw [hsn, kidsN_snoc, List.map_append, HLM.out]
              rfl
            · rw [hsn, kidsN_snoc]
              exact HL9.out
          case measure => simp [intOf]; omega
        · have hr0' : ¬ (0 : Int) < (r : Int) := by omega
          have x80 := HL.out.r8.cell 0
          have x81 := HL.out.r8.cell 1
          have x82 := HL.out.r8.cell 2
          have y0 := HL.out.r6.cell 0
          have y1 := HL.out.r6.cell 1
          have y2 := HL.out.r6.cell 2
          have y3 := HL.out.r6.cell 3
          have yf0 := HL.out.r6.frozen 0
          have yf1 := HL.out.r6.frozen 1
          have yf2 := HL.out.r6.frozen 2
          have yf3 := HL.out.r6.frozen 3
          go_wp2_with fail
          have hZ := (((HL.out.r6.set_ 0 (.int .i64 K.1)).set_ 1 (.string ⟨nm.toArray⟩)).set_ 2 (.int .i64 0)).set_ 3 (.slice A' L.length c')
          have z0 := hZ.cell 0
          have z1 := hZ.cell 1
          have z2 := hZ.cell 2
          have z3 := hZ.cell 3
          refine bodyPost_ret (v := .agg #[.int .i64 K.1, .string ⟨nm.toArray⟩, .int .i64 0, .slice A' L.length c']) (by simp [results, Tryd.results41, go_sem, z0, z1, z2, z3]) rfl ?_
          have hcr : L.length = cnt := by omega
          have hres : mkStep l D a g = (.mk K.1 nm 0 (L.map (·.1)), (kidsN g L.length a3).2) := by
            unfold mkStep
            rw [← HKK.out, HNM.out, HCN.out, HLM.out, hcr]
            rfl
          rw [hres]
          refine ⟨A', c', by simp [fmA, Fm.kind, Fm.name, Fm.lit, Fm.kids], ?_⟩
          exact HL.out.done hxa hx8w (by omega) ⟨hK1, hK18⟩ hnml (grown_set (grown_set (grown_set (grown_set (World.grownBy.refl _ _) _ _) _ _) _ _) _ _)
    · have h3k : (K.1 == 3) = false := by simp [h3]
      have HNM : Hid (nameF l K.1 K.2 = ([], K.2)) := Lib.hid (by unfold nameF; rw [if_neg h3])
      clear h3
      go_wp2_with fail
      have HB5 := HBa
      have HX65 := HX6a
      have HX85 := HX8a
      obtain ⟨a3, ha3⟩ : ∃ a3, a3 = K.2 := ⟨_, rfl⟩
      rw [← ha3] at HB5
      replace HNM : Hid (nameF l K.1 K.2 = ([], a3)) := Lib.hid (by rw [ha3]; exact HNM.out)
      have ha33 : a3 ≤ a + 3 := by omega
      clear ha3
      obtain ⟨nm, hnm⟩ : ∃ nm : List UInt8, nm = [] := ⟨_, rfl⟩
      have hnml : nm.length ≤ 3 := by rw [hnm]; decide
      rw [← hnm] at HNM
      have HX85 : Hid (Blk _ w3.heap.size 37 #[.int .i64 K.1, .string ⟨nm.toArray⟩, .int .i64 0, .slice none 0 0]) := Lib.hid (by rw [hnm]; exact HX85.out)
      clear hnm
      generalize w3.alloc (.cells #[.int .i64 K.1, .string ⟨#[]⟩, .int .i64 0, .slice none 0 0] 37) = w5 at HB5 HX65 HX85 ⊢
      obtain ⟨x8, hx8⟩ : ∃ x8, x8 = w3.heap.size := ⟨_, rfl⟩
      have hx8w : w.heap.size < x8 := by omega
      rw [← hx8] at HX85 ⊢
      clear hx8
      refine (rkids_any _ _).mono ?_
      rintro e w6 ⟨rfl, hw6⟩
      have hw6 := hw6.symm
      subst hw6
      have hnk := nk_le K.1
      have hnk0 : 0 ≤ nk K.1 := by unfold nk; rw [if_neg (by omega)]; split <;> (try split) <;> decide
      obtain ⟨cnt, hcnt⟩ : ∃ cnt : Nat, nk K.1 = (cnt : Int) := ⟨(nk K.1).toNat, by omega⟩
      have HCN := Lib.hid hcnt
      rw [hcnt]
      clear hnk0
      rw [hcnt] at hnk
      have hx8l := HX85.out.lt
      clear hcnt
      go_wp2_with fail
      go_loopw [9] (fun iv wr => ∃ (r : Nat) (L : List (Fm × Option Addr × Nat)) (A' : Option Addr) (c' : Nat), iv = .int .i64 (r : Int) ∧ L.length + r = cnt ∧ L.map (·.1) = (kidsN g L.length a3).1 ∧ MkL w wr B xa xl xp xm A c l x8 K.1 nm L A' c' (kidsN g L.length a3).2 wr.heap.size) (fun iv _ => (intOf iv).toNat)
      case atStart => exact ⟨cnt, [], none, 0, rfl, by simp, rfl, HB5.out, HX65.out, HX85.out, ⟨rfl, .inl ⟨rfl, rfl⟩⟩, Nat.le_refl _, fun _ => 0, fun _ => 0, fun i x h => by cases h⟩
      case round =>
        obtain ⟨r, L, A', c', rfl, hjr, hLm, hLL⟩ := hrel
        have hszr := hLL.b.g.size
        have x83 := hLL.r8.cell 3
        have m0 := hLL.b.st.m.cell 0
        have HL := Lib.hid hLL
        have HLM := Lib.hid hLm
        clear hLm hLL
        by_cases hr0 : 0 < r
        · have hr0' : (0 : Int) < (r : Int) := by omega
          have hD0 : D ≠ 0 := fun h => by
            have := HLF.out h
            rw [← HKK.out, HCN.out] at this
            omega
          have hwr : IntKind.i64.wrap ((D : Int) - 1) = (D : Int) - 1 := IntWalk.i64_in _ (by omega)
          have HC := Lib.hid (HKI.out hD0 (kidsN g L.length a3).2 wr.drew (HGG.out a3 (by omega) L.length (by omega)) (HL.out.drew hxa hx8w).b.st (HL.out.drew hxa hx8w).b.a)
          go_wp2_with fail
          refine wp_region_noPanic ?_
          refine wp_region_seq (fun W => W.cell? ⟨x8, 3, none⟩ = some (.slice A' L.length c') ∧ W.cell? ⟨xm, 0, none⟩ = some (.func (.func 41) #[] #[.pointer (some ⟨xp, 0, none⟩), .pointer (some ⟨xa, 0, none⟩), .pointer (some ⟨xl, 0, none⟩), .pointer (some ⟨xm, 0, none⟩)])) [0, 1, 2, 3, 4, 5, 6, 7, 8, 9] [0, 1, 2, 3, 4, 8] [9] (by kernel_rfl) (by kernel_rfl) rfl (by kernel_rfl) (by kernel_rfl) (fun _ _ _ _ _ h => h) ?_ (fun hSS => ?_)
          · exact ⟨x83, m0⟩
          clear hSS
          (refine wpSeq_mov rfl rfl ?_; intro o ho; simp only [List.getElem?_toArray, List.getElem?_cons_zero, List.getElem?_cons_succ, Option.some.injEq] at ho; subst ho; refine ⟨?_, Or.inl ⟨by rfl, fun W hSW => ?_⟩, ?_⟩; rotate_left; (focus (go_simp; first | done | with_reducible rfl)); try simp only [Act.put, List.setIfInBounds_toArray, List.set_cons_zero, List.set_cons_succ])
          (refine wpSeq_mov rfl rfl ?_; intro o ho; simp only [List.getElem?_toArray, List.getElem?_cons_zero, List.getElem?_cons_succ, Option.some.injEq] at ho; subst ho; refine ⟨?_, Or.inl ⟨by rfl, fun W hSW => ?_⟩, ?_⟩; rotate_left; (focus (go_simp; first | done | with_reducible rfl)); try simp only [Act.put, List.setIfInBounds_toArray, List.set_cons_zero, List.set_cons_succ])
          (refine wpSeq_mov rfl rfl ?_; intro o ho; simp only [List.getElem?_toArray, List.getElem?_cons_zero, List.getElem?_cons_succ, Option.some.injEq] at ho; subst ho; refine ⟨?_, Or.inl ⟨by rfl, fun W hSW => ?_⟩, ?_⟩; rotate_left; (focus (go_simp; first | done | with_reducible rfl)); try simp only [Act.put, List.setIfInBounds_toArray, List.set_cons_zero, List.set_cons_succ])
          (refine wpSeq_mov rfl rfl ?_; intro o ho; simp only [List.getElem?_toArray, List.getElem?_cons_zero, List.getElem?_cons_succ, Option.some.injEq] at ho; subst ho; refine ⟨?_, Or.inl ⟨by rfl, fun W hSW => ?_⟩, ?_⟩; rotate_left; (focus (go_simp; first | done | with_reducible rfl)); try simp only [Act.put, List.setIfInBounds_toArray, List.set_cons_zero, List.set_cons_succ])
          (refine wpSeq_mov rfl rfl ?_; intro o ho; simp only [List.getElem?_toArray, List.getElem?_cons_zero, List.getElem?_cons_succ, Option.some.injEq] at ho; subst ho; refine ⟨?_, Or.inl ⟨by rfl, fun W hSW => ?_⟩, ?_⟩; rotate_left; (focus (go_simp; first | done | with_reducible rfl)); try simp only [Act.put, List.setIfInBounds_toArray, List.set_cons_zero, List.set_cons_succ])
          (refine wpSeq_fix rfl rfl ?_; intro o ho; simp only [List.getElem?_toArray, List.getElem?_cons_zero, List.getElem?_cons_succ, Option.some.injEq] at ho; subst ho; intro K hK)
          go_simp
          refine HC.out.mono ?_
          rintro e w7 ⟨A1, c1, rfl, hP⟩
          have hL7 := (HL.out.drew hxa hx8w).call hxa hx8w hP.g hP.a
          have HV7 := Lib.hid hP.v
          have hs7 : wr.heap.size ≤ w7.heap.size := hP.g.size
          have HL7 := Lib.hid hL7
          have hxr : x8 < wr.heap.size := HL.out.r8.lt
          have hxmw : xm < x8 := by omega
          have HRW : Hid (∀ k, (Value.slice A' L.length c').ownBlock = some k → x8 < k ∧ k < wr.heap.size) := Lib.hid fun k hk => by
            have := HL.out.o.lt k hk
            omega
          clear hP hL7 x83 m0
          unfold fmA
          (refine hK.out _ _ (fun _ => ⟨HL7.out.r8.cell 3, HL7.out.b.st.m.cell 0⟩) ?_; clear hK K; try simp only [Act.put, List.setIfInBounds_toArray, List.set_cons_zero, List.set_cons_succ])
          (refine wpSeq_fix rfl rfl ?_; intro o ho; simp only [List.getElem?_toArray, List.getElem?_cons_zero, List.getElem?_cons_succ, Option.some.injEq] at ho; subst ho; intro K hK)
          go_simp
          (refine hK.out _ _ (fun _ => ⟨(HL7.out.r8.alloc _).cell 3, (HL7.out.b.st.m.alloc _).cell 0⟩) ?_; clear hK K; try simp only [Act.put, List.setIfInBounds_toArray, List.set_cons_zero, List.set_cons_succ])
          (refine wpSeq_fix rfl rfl ?_; intro o ho; simp only [List.getElem?_toArray, List.getElem?_cons_zero, List.getElem?_cons_succ, Option.some.injEq] at ho; subst ho; intro K hK)
          refine step_append_fm rfl (.tmp 46) (.tmp 51) rfl (x8 + 1) L (.slice A' L.length c') rfl (own_below HL7.out.o (stepA w7 (.cells #[.int .i64 (g (kidsN g L.length a3).2).1.kind, .string ⟨(g (kidsN g L.length a3).2).1.name.toArray⟩, .int .i64 (g (kidsN g L.length a3).2).1.lit, .slice A1 (g (kidsN g L.length a3).2).1.kids.length c1] 37))) w7.heap.size (g (kidsN g L.length a3).2).1 A1 c1 rfl (Blk.new _ _ _) (by omega) (by simp; omega) ?_
          intro A2 c2 w9 ho9 hc9 hg9 hat9
          have HL9 := Lib.hid (HL7.out.push hxa hxp hxm hxl hx8w HQ.out hxr hs7 (Nat.le_refl _) (fun k hk => (HRW.out k hk).2) HV7.out ho9 hg9 hat9)
          have h89 := (HL7.out.r8.alloc (.cells #[.int .i64 (g (kidsN g L.length a3).2).1.kind, .string ⟨(g (kidsN g L.length a3).2).1.name.toArray⟩, .int .i64 (g (kidsN g L.length a3).2).1.lit, .slice A1 (g (kidsN g L.length a3).2).1.kids.length c1] 37)).grown hg9 (fun e => by have := (HRW.out x8 e.symm).1; omega)
          have hm9 := (HL7.out.b.st.m.alloc (.cells #[.int .i64 (g (kidsN g L.length a3).2).1.kind, .string ⟨(g (kidsN g L.length a3).2).1.name.toArray⟩, .int .i64 (g (kidsN g L.length a3).2).1.lit, .slice A1 (g (kidsN g L.length a3).2).1.kids.length c1] 37)).grown hg9 (fun e => by have := (HRW.out xm e.symm).1; omega)
          have q83 := h89.cell 3
          have qf3 := h89.frozen 3
          have HQQ := Lib.hid (And.intro (h89.cell 3) (hm9.cell 0))
          clear h89 hm9 ho9 hg9 hat9
          (refine hK.out _ _ (fun _ => HQQ.out) ?_; clear hK K; try simp only [Act.put, List.setIfInBounds_toArray, List.set_cons_zero, List.set_cons_succ])
          (refine wpSeq_mov rfl rfl ?_; intro o ho; simp only [List.getElem?_toArray, List.getElem?_cons_zero, List.getElem?_cons_succ, Option.some.injEq] at ho; subst ho; refine ⟨?_, Or.inl ⟨by rfl, fun W hSW => ?_⟩, ?_⟩; rotate_left; (focus (go_simp; first | done | with_reducible rfl)); try simp only [Act.put, List.setIfInBounds_toArray, List.set_cons_zero, List.set_cons_succ])
          (refine wpSeq_fix rfl rfl ?_; intro o ho; simp only [List.getElem?_toArray, List.getElem?_cons_zero, List.getElem?_cons_succ, Option.some.injEq] at ho; subst ho; intro K hK)
          go_simp
          (refine hK.out _ _ (fun h => by simp at h) ?_; clear hK K; try simp only [Act.put, List.setIfInBounds_toArray, List.set_cons_zero, List.set_cons_succ])
          refine wpSeq_done ?_
          go_wp2_with fail
          go_roundw
          case rel =>
            have hsn : (L ++ [((g (kidsN g L.length a3).2).1, A1, c1)]).length = L.length + 1 := by simp
            refine ⟨r - 1, L ++ [((g (kidsN g L.length a3).2).1, A1, c1)], A2, c2, ?_, by rw [hsn]; omega, ?_, ?_⟩
            · congr 1
              omega
            · rw [hsn, kidsN_snoc, List.map_append, HLM.out]
              rfl
            · rw [hsn, kidsN_snoc]
              exact HL9.out
          case measure => simp [intOf]; omega
        · have hr0' : ¬ (0 : Int) < (r : Int) := by omega
          have x80 := HL.out.r8.cell 0
          have x81 := HL.out.r8.cell 1
          have x82 := HL.out.r8.cell 2
          have y0 := HL.out.r6.cell 0
          have y1 := HL.out.r6.cell 1
          have y2 := HL.out.r6.cell 2
          have y3 := HL.out.r6.cell 3
          have yf0 := HL.out.r6.frozen 0
          have yf1 := HL.out.r6.frozen 1
          have yf2 := HL.out.r6.frozen 2
          have yf3 := HL.out.r6.frozen 3
          go_wp2_with fail
          have hZ := (((HL.out.r6.set_ 0 (.int .i64 K.1)).set_ 1 (.string ⟨nm.toArray⟩)).set_ 2 (.int .i64 0)).set_ 3 (.slice A' L.length c')
          have z0 := hZ.cell 0
          have z1 := hZ.cell 1
          have z2 := hZ.cell 2
          have z3 := hZ.cell 3
          refine bodyPost_ret (v := .agg #[.int .i64 K.1, .string ⟨nm.toArray⟩, .int .i64 0, .slice A' L.length c']) (by simp [results, Tryd.results41, go_sem, z0, z1, z2, z3]) rfl ?_
          have hcr : L.length = cnt := by omega
          have hres : mkStep l D a g = (.mk K.1 nm 0 (L.map (·.1)), (kidsN g L.length a3).2) := by
            unfold mkStep
            rw [← HKK.out, HNM.out, HCN.out, HLM.out, hcr]
            rfl
          rw [hres]
          refine ⟨A', c', by simp [fmA, Fm.kind, Fm.name, Fm.lit, Fm.kids], ?_⟩
          exact HL.out.done hxa hx8w (by omega) ⟨hK1, hK18⟩ hnml (grown_set (grown_set (grown_set (grown_set (World.grownBy.refl _ _) _ _) _ _) _ _) _ _)
  · skip
    have hcond : ¬ (D = 0 ∨ l.length ≤ a + 1 ∨ 30 < a + 1) := by omega
    have hKe : 1 + (pickN l a 18 : Int) = K.1 := by rw [HKK.out]; unfold kindF; rw [if_neg hcond]
    have hKf : K.2 = a + 1 := by rw [HKK.out]; unfold kindF; rw [if_neg hcond]
    have HB3 : Hid (MkB w w2 B xa xl xp xm A c l K.2) := Lib.hid (by rw [hKf]; exact HB2.out)
    clear hcond hKf
    have hb8 := stepA w2 (.cells #[.int .i64 K.1, .string ⟨#[]⟩, .int .i64 0, .slice none 0 0] 37)
    have HBa := Lib.hid (HB3.out.after hb8)
    have HX6a := Lib.hid (HX62.out.alloc (.cells #[.int .i64 K.1, .string ⟨#[]⟩, .int .i64 0, .slice none 0 0] 37))
    have HX8a := Lib.hid (Blk.new w2 37 #[.int .i64 K.1, .string ⟨#[]⟩, .int .i64 0, .slice none 0 0])
    clear hb8
    by_cases h3 : K.1 = 3
    · have h3k : (K.1 == 3) = true := by simp [h3]
      have hb9 := stepA (w2.alloc (.cells #[.int .i64 K.1, .string ⟨#[]⟩, .int .i64 0, .slice none 0 0] 37)) (.cells #[.string ⟨#[113]⟩, .string ⟨#[108, 48]⟩, .string ⟨#[111, 117, 116]⟩, .string ⟨#[108, 49]⟩, .string ⟨#[105, 48]⟩, .string ⟨#[111, 48]⟩, .string ⟨#[97, 45, 98]⟩] 9)
      have HBb := Lib.hid (HBa.out.after hb9)
      have HX6b := Lib.hid (HX6a.out.alloc (.cells #[.string ⟨#[113]⟩, .string ⟨#[108, 48]⟩, .string ⟨#[111, 117, 116]⟩, .string ⟨#[108, 49]⟩, .string ⟨#[105, 48]⟩, .string ⟨#[111, 48]⟩, .string ⟨#[97, 45, 98]⟩] 9))
      have HX8b := Lib.hid (HX8a.out.alloc (.cells #[.string ⟨#[113]⟩, .string ⟨#[108, 48]⟩, .string ⟨#[111, 117, 116]⟩, .string ⟨#[108, 49]⟩, .string ⟨#[105, 48]⟩, .string ⟨#[111, 48]⟩, .string ⟨#[97, 45, 98]⟩] 9))
      have HRb := Lib.hid (Blk.new (w2.alloc (.cells #[.int .i64 K.1, .string ⟨#[]⟩, .int .i64 0, .slice none 0 0] 37)) 9 #[.string ⟨#[113]⟩, .string ⟨#[108, 48]⟩, .string ⟨#[111, 117, 116]⟩, .string ⟨#[108, 49]⟩, .string ⟨#[105, 48]⟩, .string ⟨#[111, 48]⟩, .string ⟨#[97, 45, 98]⟩])
      have p2 := HBb.out.st.p.cell 0
      have HNM : Hid (nameF l K.1 K.2 = (names7[pickN l K.2 7]?.getD [], K.2 + 1)) := Lib.hid (by unfold nameF; rw [if_pos h3])
      clear hb9 h3
      go_wp2_with fail
      refine (pick_step l (a := K.2) (.inr rfl) (by omega) hl hc HBb.out).mono ?_
      rintro e w4 ⟨rfl, hB4, hg4⟩
      have hx8ne : w2.heap.size ≠ xa := by omega
      have hX64 := HX6b.out.grown hg4 (by simp; omega)
      have hX84 := HX8b.out.grown hg4 (by simp; omega)
      have hR4 := HRb.out.grown hg4 (by simp; omega)
      have hPn := pickN_lt l K.2 7 (by decide)
      have hrow := (hR4.cell (pickN l K.2 7)).trans (names7_row _ hPn)
      have f81 := hX84.frozen 1
      have c81 := hX84.cell 1
      simp only [World.size_alloc] at hrow
      have HB4 := Lib.hid hB4
      have HX64 := Lib.hid hX64
      have HX84 := Lib.hid hX84
      clear hB4 hg4 hX64 hX84 hR4 p2
      go_wp2_with fail
      have hxx : w.heap.size ≤ w2.heap.size := by omega
      have HB5 := Lib.hid (HB4.out.own (x := w2.heap.size) (j := 1) HX84.out hxx hxa hxp hxm hxl (.string ⟨(names7[pickN l K.2 7]?.getD []).toArray⟩) HQ.out)
      have HX65 := Lib.hid (HX64.out.far (p := ⟨w2.heap.size, 1, none⟩) (by simp; omega) (.string ⟨(names7[pickN l K.2 7]?.getD []).toArray⟩))
      have HX85 := Lib.hid (HX84.out.set_ 1 (.string ⟨(names7[pickN l K.2 7]?.getD []).toArray⟩))
      obtain ⟨nm, hnm⟩ : ∃ nm, nm = names7[pickN l K.2 7]?.getD [] := ⟨_, rfl⟩
      have hnml : nm.length ≤ 3 := by rw [hnm]; exact names7_len _ hPn
      rw [← hnm] at HB5 HX65 HX85 HNM ⊢
      clear hnm hrow
      obtain ⟨a3, ha3⟩ : ∃ a3, a3 = K.2 + 1 := ⟨_, rfl⟩
      rw [← ha3] at HB5 HNM
      have ha33 : a3 ≤ a + 3 := by omega
      clear ha3
      generalize w4.setCell ⟨w2.heap.size, 1, none⟩ (.string ⟨nm.toArray⟩) = w5 at HB5 HX65 HX85 ⊢
      obtain ⟨x8, hx8⟩ : ∃ x8, x8 = w2.heap.size := ⟨_, rfl⟩
      have hx8w : w.heap.size < x8 := by omega
      rw [← hx8] at HX85 ⊢
      clear hx8
      refine (rkids_any _ _).mono ?_
      rintro e w6 ⟨rfl, hw6⟩
      have hw6 := hw6.symm
      subst hw6
      have hnk := nk_le K.1
      have hnk0 : 0 ≤ nk K.1 := by unfold nk; rw [if_neg (by omega)]; split <;> (try split) <;> decide
      obtain ⟨cnt, hcnt⟩ : ∃ cnt : Nat, nk K.1 = (cnt : Int) := ⟨(nk K.1).toNat, by omega⟩
      have HCN := Lib.hid hcnt
      rw [hcnt]
      clear hnk0
      rw [hcnt] at hnk
      have hx8l := HX85.out.lt
      clear hcnt
      go_wp2_with fail
      go_loopw [9] (fun iv wr => ∃ (r : Nat) (L : List (Fm × Option Addr × Nat)) (A' : Option Addr) (c' : Nat), iv = .int .i64 (r : Int) ∧ L.length + r = cnt ∧ L.map (·.1) = (kidsN g L.length a3).1 ∧ MkL w wr B xa xl xp xm A c l x8 K.1 nm L A' c' (kidsN g L.length a3).2 wr.heap.size) (fun iv _ => (intOf iv).toNat)
      case atStart => exact ⟨cnt, [], none, 0, rfl, by simp, rfl, HB5.out, HX65.out, HX85.out, ⟨rfl, .inl ⟨rfl, rfl⟩⟩, Nat.le_refl _, fun _ => 0, fun _ => 0, fun i x h => by cases h⟩
      case round =>
        obtain ⟨r, L, A', c', rfl, hjr, hLm, hLL⟩ := hrel
        have hszr := hLL.b.g.size
        have x83 := hLL.r8.cell 3
        have m0 := hLL.b.st.m.cell 0
        have HL := Lib.hid hLL
        have HLM := Lib.hid hLm
        clear hLm hLL
        by_cases hr0 : 0 < r
        · have hr0' : (0 : Int) < (r : Int) := by omega
          have hD0 : D ≠ 0 := fun h => by
            have := HLF.out h
            rw [← HKK.out, HCN.out] at this
            omega
          have hwr : IntKind.i64.wrap ((D : Int) - 1) = (D : Int) - 1 := IntWalk.i64_in _ (by omega)
          have HC := Lib.hid (HKI.out hD0 (kidsN g L.length a3).2 wr.drew (HGG.out a3 (by omega) L.length (by omega)) (HL.out.drew hxa hx8w).b.st (HL.out.drew hxa hx8w).b.a)
          go_wp2_with fail
          refine wp_region_noPanic ?_
          refine wp_region_seq (fun W => W.cell? ⟨x8, 3, none⟩ = some (.slice A' L.length c') ∧ W.cell? ⟨xm, 0, none⟩ = some (.func (.func 41) #[] #[.pointer (some ⟨xp, 0, none⟩), .pointer (some ⟨xa, 0, none⟩), .pointer (some ⟨xl, 0, none⟩), .pointer (some ⟨xm, 0, none⟩)])) [0, 1, 2, 3, 4, 5, 6, 7, 8, 9] [0, 1, 2, 3, 4, 8] [9] (by kernel_rfl) (by kernel_rfl) rfl (by kernel_rfl) (by kernel_rfl) (fun _ _ _ _ _ h => h) ?_ (fun hSS => ?_)
          · exact ⟨x83, m0⟩
          clear hSS
          (refine wpSeq_mov rfl rfl ?_; intro o ho; simp only [List.getElem?_toArray, List.getElem?_cons_zero, List.getElem?_cons_succ, Option.some.injEq] at ho; subst ho; refine ⟨?_, Or.inl ⟨by rfl, fun W hSW => ?_⟩, ?_⟩; rotate_left; (focus (go_simp; first | done | with_reducible rfl)); try simp only [Act.put, List.setIfInBounds_toArray, List.set_cons_zero, List.set_cons_succ])
          (refine wpSeq_mov rfl rfl ?_; intro o ho; simp only [List.getElem?_toArray, List.getElem?_cons_zero, List.getElem?_cons_succ, Option.some.injEq] at ho; subst ho; refine ⟨?_, Or.inl ⟨by rfl, fun W hSW => ?_⟩, ?_⟩; rotate_left; (focus (go_simp; first | done | with_reducible rfl)); try simp only [Act.put, List.setIfInBounds_toArray, List.set_cons_zero, List.set_cons_succ])
          (refine wpSeq_mov rfl rfl ?_; intro o ho; simp only [List.getElem?_toArray, List.getElem?_cons_zero, List.getElem?_cons_succ, Option.some.injEq] at ho; subst ho; refine ⟨?_, Or.inl ⟨by rfl, fun W hSW => ?_⟩, ?_⟩; rotate_left; (focus (go_simp; first | done | with_reducible rfl)); try simp only [Act.put, List.setIfInBounds_toArray, List.set_cons_zero, List.set_cons_succ])
          (refine wpSeq_mov rfl rfl ?_; intro o ho; simp only [List.getElem?_toArray, List.getElem?_cons_zero, List.getElem?_cons_succ, Option.some.injEq] at ho; subst ho; refine ⟨?_, Or.inl ⟨by rfl, fun W hSW => ?_⟩, ?_⟩; rotate_left; (focus (go_simp; first | done | with_reducible rfl)); try simp only [Act.put, List.setIfInBounds_toArray, List.set_cons_zero, List.set_cons_succ])
          (refine wpSeq_mov rfl rfl ?_; intro o ho; simp only [List.getElem?_toArray, List.getElem?_cons_zero, List.getElem?_cons_succ, Option.some.injEq] at ho; subst ho; refine ⟨?_, Or.inl ⟨by rfl, fun W hSW => ?_⟩, ?_⟩; rotate_left; (focus (go_simp; first | done | with_reducible rfl)); try simp only [Act.put, List.setIfInBounds_toArray, List.set_cons_zero, List.set_cons_succ])
          (refine wpSeq_fix rfl rfl ?_; intro o ho; simp only [List.getElem?_toArray, List.getElem?_cons_zero, List.getElem?_cons_succ, Option.some.injEq] at ho; subst ho; intro K hK)
          go_simp
          refine HC.out.mono ?_
          rintro e w7 ⟨A1, c1, rfl, hP⟩
          have hL7 := (HL.out.drew hxa hx8w).call hxa hx8w hP.g hP.a
          have HV7 := Lib.hid hP.v
          have hs7 : wr.heap.size ≤ w7.heap.size := hP.g.size
          have HL7 := Lib.hid hL7
          have hxr : x8 < wr.heap.size := HL.out.r8.lt
          have hxmw : xm < x8 := by omega
          have HRW : Hid (∀ k, (Value.slice A' L.length c').ownBlock = some k → x8 < k ∧ k < wr.heap.size) := Lib.hid fun k hk => by
            have := HL.out.o.lt k hk
            omega
          clear hP hL7 x83 m0
          unfold fmA
          (refine hK.out _ _ (fun _ => ⟨HL7.out.r8.cell 3, HL7.out.b.st.m.cell 0⟩) ?_; clear hK K; try simp only [Act.put, List.setIfInBounds_toArray, List.set_cons_zero, List.set_cons_succ])
          (refine wpSeq_fix rfl rfl ?_; intro o ho; simp only [List.getElem?_toArray, List.getElem?_cons_zero, List.getElem?_cons_succ, Option.some.injEq] at ho; subst ho; intro K hK)
          go_simp
          (refine hK.out _ _ (fun _ => ⟨(HL7.out.r8.alloc _).cell 3, (HL7.out.b.st.m.alloc _).cell 0⟩) ?_; clear hK K; try simp only [Act.put, List.setIfInBounds_toArray, List.set_cons_zero, List.set_cons_succ])
          (refine wpSeq_fix rfl rfl ?_; intro o ho; simp only [List.getElem?_toArray, List.getElem?_cons_zero, List.getElem?_cons_succ, Option.some.injEq] at ho; subst ho; intro K hK)
          refine step_append_fm rfl (.tmp 46) (.tmp 51) rfl (x8 + 1) L (.slice A' L.length c') rfl (own_below HL7.out.o (stepA w7 (.cells #[.int .i64 (g (kidsN g L.length a3).2).1.kind, .string ⟨(g (kidsN g L.length a3).2).1.name.toArray⟩, .int .i64 (g (kidsN g L.length a3).2).1.lit, .slice A1 (g (kidsN g L.length a3).2).1.kids.length c1] 37))) w7.heap.size (g (kidsN g L.length a3).2).1 A1 c1 rfl (Blk.new _ _ _) (by omega) (by simp; omega) ?_
          intro A2 c2 w9 ho9 hc9 hg9 hat9
          have HL9 := Lib.hid (HL7.out.push hxa hxp hxm hxl hx8w HQ.out hxr hs7 (Nat.le_refl _) (fun k hk => (HRW.out k hk).2) HV7.out ho9 hg9 hat9)
          have h89 := (HL7.out.r8.alloc (.cells #[.int .i64 (g (kidsN g L.length a3).2).1.kind, .string ⟨(g (kidsN g L.length a3).2).1.name.toArray⟩, .int .i64 (g (kidsN g L.length a3).2).1.lit, .slice A1 (g (kidsN g L.length a3).2).1.kids.length c1] 37)).grown hg9 (fun e => by have := (HRW.out x8 e.symm).1; omega)
          have hm9 := (HL7.out.b.st.m.alloc (.cells #[.int .i64 (g (kidsN g L.length a3).2).1.kind, .string ⟨(g (kidsN g L.length a3).2).1.name.toArray⟩, .int .i64 (g (kidsN g L.length a3).2).1.lit, .slice A1 (g (kidsN g L.length a3).2).1.kids.length c1] 37)).grown hg9 (fun e => by have := (HRW.out xm e.symm).1; omega)
          have q83 := h89.cell 3
          have qf3 := h89.frozen 3
          have HQQ := Lib.hid (And.intro (h89.cell 3) (hm9.cell 0))
          clear h89 hm9 ho9 hg9 hat9
          (refine hK.out _ _ (fun _ => HQQ.out) ?_; clear hK K; try simp only [Act.put, List.setIfInBounds_toArray, List.set_cons_zero, List.set_cons_succ])
          (refine wpSeq_mov rfl rfl ?_; intro o ho; simp only [List.getElem?_toArray, List.getElem?_cons_zero, List.getElem?_cons_succ, Option.some.injEq] at ho; subst ho; refine ⟨?_, Or.inl ⟨by rfl, fun W hSW => ?_⟩, ?_⟩; rotate_left; (focus (go_simp; first | done | with_reducible rfl)); try simp only [Act.put, List.setIfInBounds_toArray, List.set_cons_zero, List.set_cons_succ])
          (refine wpSeq_fix rfl rfl ?_; intro o ho; simp only [List.getElem?_toArray, List.getElem?_cons_zero, List.getElem?_cons_succ, Option.some.injEq] at ho; subst ho; intro K hK)
          go_simp
          (refine hK.out _ _ (fun h => by simp at h) ?_; clear hK K; try simp only [Act.put, List.setIfInBounds_toArray, List.set_cons_zero, List.set_cons_succ])
          refine wpSeq_done ?_
          go_wp2_with fail
          go_roundw
          case rel =>
            have hsn : (L ++ [((g (kidsN g L.length a3).2).1, A1, c1)]).length = L.length + 1 := by simp
            refine ⟨r - 1, L ++ [((g (kidsN g L.length a3).2).1, A1, c1)], A2, c2, ?_, by rw [hsn]; omega, ?_, ?_⟩
            · congr 1
              omega
            · rw [hsn, kidsN_snoc, List.map_append, HLM.out]
              rfl
            · rw [hsn, kidsN_snoc]
              exact HL9.out
          case measure => simp [intOf]; omega
        · have hr0' : ¬ (0 : Int) < (r : Int) := by omega
          have x80 := HL.out.r8.cell 0
          have x81 := HL.out.r8.cell 1
          have x82 := HL.out.r8.cell 2
          have y0 := HL.out.r6.cell 0
          have y1 := HL.out.r6.cell 1
          have y2 := HL.out.r6.cell 2
          have y3 := HL.out.r6.cell 3
          have yf0 := HL.out.r6.frozen 0
          have yf1 := HL.out.r6.frozen 1
          have yf2 := HL.out.r6.frozen 2
          have yf3 := HL.out.r6.frozen 3
          go_wp2_with fail
          have hZ := (((HL.out.r6.set_ 0 (.int .i64 K.1)).set_ 1 (.string ⟨nm.toArray⟩)).set_ 2 (.int .i64 0)).set_ 3 (.slice A' L.length c')
          have z0 := hZ.cell 0
          have z1 := hZ.cell 1
          have z2 := hZ.cell 2
          have z3 := hZ.cell 3
          refine bodyPost_ret (v := .agg #[.int .i64 K.1, .string ⟨nm.toArray⟩, .int .i64 0, .slice A' L.length c']) (by simp [results, Tryd.results41, go_sem, z0, z1, z2, z3]) rfl ?_
          have hcr : L.length = cnt := by omega
          have hres : mkStep l D a g = (.mk K.1 nm 0 (L.map (·.1)), (kidsN g L.length a3).2) := by
            unfold mkStep
            rw [← HKK.out, HNM.out, HCN.out, HLM.out, hcr]
            rfl
          rw [hres]
          refine ⟨A', c', by simp [fmA, Fm.kind, Fm.name, Fm.lit, Fm.kids], ?_⟩
          exact HL.out.done hxa hx8w (by omega) ⟨hK1, hK18⟩ hnml (grown_set (grown_set (grown_set (grown_set (World.grownBy.refl _ _) _ _) _ _) _ _) _ _)
    · have h3k : (K.1 == 3) = false := by simp [h3]
      have HNM : Hid (nameF l K.1 K.2 = ([], K.2)) := Lib.hid (by unfold nameF; rw [if_neg h3])
      clear h3
      go_wp2_with fail
      have HB5 := HBa
      have HX65 := HX6a
      have HX85 := HX8a
      obtain ⟨a3, ha3⟩ : ∃ a3, a3 = K.2 := ⟨_, rfl⟩
      rw [← ha3] at HB5
      replace HNM : Hid (nameF l K.1 K.2 = ([], a3)) := Lib.hid (by rw [ha3]; exact HNM.out)
      have ha33 : a3 ≤ a + 3 := by omega
      clear ha3
      obtain ⟨nm, hnm⟩ : ∃ nm : List UInt8, nm = [] := ⟨_, rfl⟩
      have hnml : nm.length ≤ 3 := by rw [hnm]; decide
      rw [← hnm] at HNM
      have HX85 : Hid (Blk _ w2.heap.size 37 #[.int .i64 K.1, .string ⟨nm.toArray⟩, .int .i64 0, .slice none 0 0]) := Lib.hid (by rw [hnm]; exact HX85.out)
      clear hnm
      generalize w2.alloc (.cells #[.int .i64 K.1, .string ⟨#[]⟩, .int .i64 0, .slice none 0 0] 37) = w5 at HB5 HX65 HX85 ⊢
      obtain ⟨x8, hx8⟩ : ∃ x8, x8 = w2.heap.size := ⟨_, rfl⟩
      have hx8w : w.heap.size < x8 := by omega
      rw [← hx8] at HX85 ⊢
      clear hx8
      refine (rkids_any _ _).mono ?_
      rintro e w6 ⟨rfl, hw6⟩
      have hw6 := hw6.symm
      subst hw6
      have hnk := nk_le K.1
      have hnk0 : 0 ≤ nk K.1 := by unfold nk; rw [if_neg (by omega)]; split <;> (try split) <;> decide
      obtain ⟨cnt, hcnt⟩ : ∃ cnt : Nat, nk K.1 = (cnt : Int) := ⟨(nk K.1).toNat, by omega⟩
      have HCN := Lib.hid hcnt
      rw [hcnt]
      clear hnk0
      rw [hcnt] at hnk
      have hx8l := HX85.out.lt
      clear hcnt
      go_wp2_with fail
      go_loopw [9] (fun iv wr => ∃ (r : Nat) (L : List (Fm × Option Addr × Nat)) (A' : Option Addr) (c' : Nat), iv = .int .i64 (r : Int) ∧ L.length + r = cnt ∧ L.map (·.1) = (kidsN g L.length a3).1 ∧ MkL w wr B xa xl xp xm A c l x8 K.1 nm L A' c' (kidsN g L.length a3).2 wr.heap.size) (fun iv _ => (intOf iv).toNat)
      case atStart => exact ⟨cnt, [], none, 0, rfl, by simp, rfl, HB5.out, HX65.out, HX85.out, ⟨rfl, .inl ⟨rfl, rfl⟩⟩, Nat.le_refl _, fun _ => 0, fun _ => 0, fun i x h => by cases h⟩
      case round =>
        obtain ⟨r, L, A', c', rfl, hjr, hLm, hLL⟩ := hrel
        have hszr := hLL.b.g.size
        have x83 := hLL.r8.cell 3
        have m0 := hLL.b.st.m.cell 0
        have HL := Lib.hid hLL
        have HLM := Lib.hid hLm
        clear hLm hLL
        by_cases hr0 : 0 < r
        · have hr0' : (0 : Int) < (r : Int) := by omega
          have hD0 : D ≠ 0 := fun h => by
            have := HLF.out h
            rw [← HKK.out, HCN.out] at this
            omega
          have hwr : IntKind.i64.wrap ((D : Int) - 1) = (D : Int) - 1 := IntWalk.i64_in _ (by omega)
          have HC := Lib.hid (HKI.out hD0 (kidsN g L.length a3).2 wr.drew (HGG.out a3 (by omega) L.length (by omega)) (HL.out.drew hxa hx8w).b.st (HL.out.drew hxa hx8w).b.a)
          go_wp2_with fail
          refine wp_region_noPanic ?_
          refine wp_region_seq (fun W => W.cell? ⟨x8, 3, none⟩ = some (.slice A' L.length c') ∧ W.cell? ⟨xm, 0, none⟩ = some (.func (.func 41) #[] #[.pointer (some ⟨xp, 0, none⟩), .pointer (some ⟨xa, 0, none⟩), .pointer (some ⟨xl, 0, none⟩), .pointer (some ⟨xm, 0, none⟩)])) [0, 1, 2, 3, 4, 5, 6, 7, 8, 9] [0, 1, 2, 3, 4, 8] [9] (by kernel_rfl) (by kernel_rfl) rfl (by kernel_rfl) (by kernel_rfl) (fun _ _ _ _ _ h => h) ?_ (fun hSS => ?_)
          · exact ⟨x83, m0⟩
          clear hSS
          (refine wpSeq_mov rfl rfl ?_; intro o ho; simp only [List.getElem?_toArray, List.getElem?_cons_zero, List.getElem?_cons_succ, Option.some.injEq] at ho; subst ho; refine ⟨?_, Or.inl ⟨by rfl, fun W hSW => ?_⟩, ?_⟩; rotate_left; (focus (go_simp; first | done | with_reducible rfl)); try simp only [Act.put, List.setIfInBounds_toArray, List.set_cons_zero, List.set_cons_succ])
          (refine wpSeq_mov rfl rfl ?_; intro o ho; simp only [List.getElem?_toArray, List.getElem?_cons_zero, List.getElem?_cons_succ, Option.some.injEq] at ho; subst ho; refine ⟨?_, Or.inl ⟨by rfl, fun W hSW => ?_⟩, ?_⟩; rotate_left; (focus (go_simp; first | done | with_reducible rfl)); try simp only [Act.put, List.setIfInBounds_toArray, List.set_cons_zero, List.set_cons_succ])
          (refine wpSeq_mov rfl rfl ?_; intro o ho; simp only [List.getElem?_toArray, List.getElem?_cons_zero, List.getElem?_cons_succ, Option.some.injEq] at ho; subst ho; refine ⟨?_, Or.inl ⟨by rfl, fun W hSW => ?_⟩, ?_⟩; rotate_left; (focus (go_simp; first | done | with_reducible rfl)); try simp only [Act.put, List.setIfInBounds_toArray, List.set_cons_zero, List.set_cons_succ])
          (refine wpSeq_mov rfl rfl ?_; intro o ho; simp only [List.getElem?_toArray, List.getElem?_cons_zero, List.getElem?_cons_succ, Option.some.injEq] at ho; subst ho; refine ⟨?_, Or.inl ⟨by rfl, fun W hSW => ?_⟩, ?_⟩; rotate_left; (focus (go_simp; first | done | with_reducible rfl)); try simp only [Act.put, List.setIfInBounds_toArray, List.set_cons_zero, List.set_cons_succ])
          (refine wpSeq_mov rfl rfl ?_; intro o ho; simp only [List.getElem?_toArray, List.getElem?_cons_zero, List.getElem?_cons_succ, Option.some.injEq] at ho; subst ho; refine ⟨?_, Or.inl ⟨by rfl, fun W hSW => ?_⟩, ?_⟩; rotate_left; (focus (go_simp; first | done | with_reducible rfl)); try simp only [Act.put, List.setIfInBounds_toArray, List.set_cons_zero, List.set_cons_succ])
          (refine wpSeq_fix rfl rfl ?_; intro o ho; simp only [List.getElem?_toArray, List.getElem?_cons_zero, List.getElem?_cons_succ, Option.some.injEq] at ho; subst ho; intro K hK)
          go_simp
          refine HC.out.mono ?_
          rintro e w7 ⟨A1, c1, rfl, hP⟩
          have hL7 := (HL.out.drew hxa hx8w).call hxa hx8w hP.g hP.a
          have HV7 := Lib.hid hP.v
          have hs7 : wr.heap.size ≤ w7.heap.size := hP.g.size
          have HL7 := Lib.hid hL7
          have hxr : x8 < wr.heap.size := HL.out.r8.lt
          have hxmw : xm < x8 := by omega
          have HRW : Hid (∀ k, (Value.slice A' L.length c').ownBlock = some k → x8 < k ∧ k < wr.heap.size) := Lib.hid fun k hk => by
            have := HL.out.o.lt k hk
            omega
          clear hP hL7 x83 m0
          unfold fmA
          (refine hK.out _ _ (fun _ => ⟨HL7.out.r8.cell 3, HL7.out.b.st.m.cell 0⟩) ?_; clear hK K; try simp only [Act.put, List.setIfInBounds_toArray, List.set_cons_zero, List.set_cons_succ])
          (refine wpSeq_fix rfl rfl ?_; intro o ho; simp only [List.getElem?_toArray, List.getElem?_cons_zero, List.getElem?_cons_succ, Option.some.injEq] at ho; subst ho; intro K hK)
          go_simp
          (refine hK.out _ _ (fun _ => ⟨(HL7.out.r8.alloc _).cell 3, (HL7.out.b.st.m.alloc _).cell 0⟩) ?_; clear hK K; try simp only [Act.put, List.setIfInBounds_toArray, List.set_cons_zero, List.set_cons_succ])
          (refine wpSeq_fix rfl rfl ?_; intro o ho; simp only [List.getElem?_toArray, List.getElem?_cons_zero, List.getElem?_cons_succ, Option.some.injEq] at ho; subst ho; intro K hK)
          refine step_append_fm rfl (.tmp 46) (.tmp 51) rfl (x8 + 1) L (.slice A' L.length c') rfl (own_below HL7.out.o (stepA w7 (.cells #[.int .i64 (g (kidsN g L.length a3).2).1.kind, .string ⟨(g (kidsN g L.length a3).2).1.name.toArray⟩, .int .i64 (g (kidsN g L.length a3).2).1.lit, .slice A1 (g (kidsN g L.length a3).2).1.kids.length c1] 37))) w7.heap.size (g (kidsN g L.length a3).2).1 A1 c1 rfl (Blk.new _ _ _) (by omega) (by simp; omega) ?_
          intro A2 c2 w9 ho9 hc9 hg9 hat9
          have HL9 := Lib.hid (HL7.out.push hxa hxp hxm hxl hx8w HQ.out hxr hs7 (Nat.le_refl _) (fun k hk => (HRW.out k hk).2) HV7.out ho9 hg9 hat9)
          have h89 := (HL7.out.r8.alloc (.cells #[.int .i64 (g (kidsN g L.length a3).2).1.kind, .string ⟨(g (kidsN g L.length a3).2).1.name.toArray⟩, .int .i64 (g (kidsN g L.length a3).2).1.lit, .slice A1 (g (kidsN g L.length a3).2).1.kids.length c1] 37)).grown hg9 (fun e => by have := (HRW.out x8 e.symm).1; omega)
          have hm9 := (HL7.out.b.st.m.alloc (.cells #[.int .i64 (g (kidsN g L.length a3).2).1.kind, .string ⟨(g (kidsN g L.length a3).2).1.name.toArray⟩, .int .i64 (g (kidsN g L.length a3).2).1.lit, .slice A1 (g (kidsN g L.length a3).2).1.kids.length c1] 37)).grown hg9 (fun e => by have := (HRW.out xm e.symm).1; omega)
          have q83 := h89.cell 3
          have qf3 := h89.frozen 3
          have HQQ := Lib.hid (And.intro (h89.cell 3) (hm9.cell 0))
          clear h89 hm9 ho9 hg9 hat9
          (refine hK.out _ _ (fun _ => HQQ.out) ?_; clear hK K; try simp only [Act.put, List.setIfInBounds_toArray, List.set_cons_zero, List.set_cons_succ])
          (refine wpSeq_mov rfl rfl ?_; intro o ho; simp only [List.getElem?_toArray, List.getElem?_cons_zero, List.getElem?_cons_succ, Option.some.injEq] at ho; subst ho; refine ⟨?_, Or.inl ⟨by rfl, fun W hSW => ?_⟩, ?_⟩; rotate_left; (focus (go_simp; first | done | with_reducible rfl)); try simp only [Act.put, List.setIfInBounds_toArray, List.set_cons_zero, List.set_cons_succ])
          (refine wpSeq_fix rfl rfl ?_; intro o ho; simp only [List.getElem?_toArray, List.getElem?_cons_zero, List.getElem?_cons_succ, Option.some.injEq] at ho; subst ho; intro K hK)
          go_simp
          (refine hK.out _ _ (fun h => by simp at h) ?_; clear hK K; try simp only [Act.put, List.setIfInBounds_toArray, List.set_cons_zero, List.set_cons_succ])
          refine wpSeq_done ?_
          go_wp2_with fail
          go_roundw
          case rel =>
            have hsn : (L ++ [((g (kidsN g L.length a3).2).1, A1, c1)]).length = L.length + 1 := by simp
            refine ⟨r - 1, L ++ [((g (kidsN g L.length a3).2).1, A1, c1)], A2, c2, ?_, by rw [hsn]; omega, ?_, ?_⟩
            · congr 1
              omega
            · rw [hsn, kidsN_snoc, List.map_append, HLM.out]
              rfl
            · rw [hsn, kidsN_snoc]
              exact HL9.out
          case measure => simp [intOf]; omega
        · have hr0' : ¬ (0 : Int) < (r : Int) := by omega
          have x80 := HL.out.r8.cell 0
          have x81 := HL.out.r8.cell 1
          have x82 := HL.out.r8.cell 2
          have y0 := HL.out.r6.cell 0
          have y1 := HL.out.r6.cell 1
          have y2 := HL.out.r6.cell 2
          have y3 := HL.out.r6.cell 3
          have yf0 := HL.out.r6.frozen 0
          have yf1 := HL.out.r6.frozen 1
          have yf2 := HL.out.r6.frozen 2
          have yf3 := HL.out.r6.frozen 3
          go_wp2_with fail
          have hZ := (((HL.out.r6.set_ 0 (.int .i64 K.1)).set_ 1 (.string ⟨nm.toArray⟩)).set_ 2 (.int .i64 0)).set_ 3 (.slice A' L.length c')
          have z0 := hZ.cell 0
          have z1 := hZ.cell 1
          have z2 := hZ.cell 2
          have z3 := hZ.cell 3
          refine bodyPost_ret (v := .agg #[.int .i64 K.1, .string ⟨nm.toArray⟩, .int .i64 0, .slice A' L.length c']) (by simp [results, Tryd.results41, go_sem, z0, z1, z2, z3]) rfl ?_
          have hcr : L.length = cnt := by omega
          have hres : mkStep l D a g = (.mk K.1 nm 0 (L.map (·.1)), (kidsN g L.length a3).2) := by
            unfold mkStep
            rw [← HKK.out, HNM.out, HCN.out, HLM.out, hcr]
            rfl
          rw [hres]
          refine ⟨A', c', by simp [fmA, Fm.kind, Fm.name, Fm.lit, Fm.kids], ?_⟩
          exact HL.out.done hxa hx8w (by omega) ⟨hK1, hK18⟩ hnml (grown_set (grown_set (grown_set (grown_set (World.grownBy.refl _ _) _ _) _ _) _ _) _ _)
end Go.Proofs.YtijecfmblddanaaDoor

set_option linter.unusedVariables false
set_option linter.unusedSimpArgs false
namespace Go.Proofs.YtijecfmblddanaaDoor
open Go.RowKit Go.Maps

theorem make_any (l : List UInt8) : ∀ (d : Nat), d ≤ 6 → ∀ (a : Nat) (w : World) (B xa xl xp xm c : Nat) (A : Option Addr), a + 1000 * d ≤ 10000 → l.length ≤ c → c ≤ 140737488355328 → MkSt w B xa xl xp xm A c l → Blk w xa 3 #[.int .i64 (a : Int)] →
    Calls Tryd.prog 41 #[.int .i64 (d : Int), .pointer (some ⟨xp, 0, none⟩), .pointer (some ⟨xa, 0, none⟩), .pointer (some ⟨xl, 0, none⟩), .pointer (some ⟨xm, 0, none⟩)] w (MkPost w xa (mkF l d a))
  | 0, _, a, w, B, xa, xl, xp, xm, c, A, ha, hl, hc, hS, hX => by
    rw [mkF_zero l a (fun a => (.mk 0 [] 0 [], a))]
    refine make_step l _ 0 a 20000 w B xa xl xp xm c A (by omega) (by omega) hl hc hS hX (fun a' h n hn => ?_) (fun _ => kindF_leaf l a) (fun h => absurd rfl h)
    have := (kidsN_at (g := fun a => (Fm.mk 0 [] 0 [], a)) (c := 0) (fun a => ⟨Nat.le_refl _, Nat.le_refl _⟩) n a').2
    omega
  | d + 1, hd, a, w, B, xa, xl, xp, xm, c, A, ha, hl, hc, hS, hX => by
    rw [mkF_step]
    refine make_step l (mkF l d) (d + 1) a (10000 - 1000 * d) w B xa xl xp xm c A hd (by omega) hl hc hS hX (fun a' h n hn => ?_) (fun h => by omega) (fun _ a' W ha' hS hX => ?_)
    · have h1 := (kidsN_at (mkF_at l d) n a').2
      have h2 : 2 ^ (d + 1) ≤ 2 ^ 6 := Nat.pow_le_pow_right (by decide) hd
      have h3 : n * (3 * (2 ^ (d + 1) - 1)) ≤ 2 * (3 * (2 ^ (d + 1) - 1)) := Nat.mul_le_mul_right _ hn
      omega
    · have h := make_any l d (by omega) a' W B xa xl xp xm c A (by omega) hl hc hS hX
      rw [show (((d + 1 : Nat) : Int) - 1) = (d : Int) by omega]
      exact h

/-- What Made leaves. -/
def MadePost (w : World) (l : List UInt8) (e : Ending) (w' : World) : Prop := ∃ A c, e = .returned (fmA (madeF l) A c) ∧ FmVT w' w.heap.size w'.heap.size (madeF l) A c ∧ Below w.heap.size w w'

set_option maxRecDepth 100000 in
set_option maxHeartbeats 4000000 in
theorem made_any (l : List UInt8) (w : World) (A : Option Addr) (c : Nat) (hl : l.length ≤ c) (hc : c ≤ 140737488355328) (hV : NumsV w w.heap.size A l) :
    Calls Tryd.prog 25 #[.slice A l.length c] w (MadePost w l) := by
  have HV := Lib.hid hV
  clear hV
  go_enter Tryd.func25, Tryd.ntmps25
  go_wp2_with fail
  obtain ⟨W1, hW1⟩ : ∃ W1, W1 = (w.alloc (.cells #[.slice A l.length c] 24)).alloc (.cells #[.int .i64 0, .string ⟨#[]⟩, .int .i64 0, .slice none 0 0] 37) := ⟨_, rfl⟩
  have hs1 : W1.heap.size = w.heap.size + 1 + 1 := by rw [hW1]; simp
  have hb1 : Below w.heap.size w W1 := by rw [hW1]; exact ((Below.refl _ _).alloc (Nat.le_refl _) _).alloc (by simp) _
  have hL1 : Blk W1 w.heap.size 24 #[.slice A l.length c] := by rw [hW1]; exact (Blk.new w _ _).alloc _
  have hR1 : Blk W1 (w.heap.size + 1) 37 #[.int .i64 0, .string ⟨#[]⟩, .int .i64 0, .slice none 0 0] := by
    rw [hW1]
    have := Blk.new (w.alloc (.cells #[.slice A l.length c] 24)) 37 #[.int .i64 0, .string ⟨#[]⟩, .int .i64 0, .slice none 0 0]
    simpa using this
  rw [← hW1]
  clear hW1
  obtain ⟨W2, hW2⟩ : ∃ W2, W2 = ((W1.alloc (.cells #[.int .i64 0] 3)).alloc (.cells #[.func (.func 40) #[] #[.pointer (some ⟨w.heap.size + 1 + 1, 0, none⟩), .pointer (some ⟨w.heap.size, 0, none⟩)]] 59)).alloc (.cells #[.func (.func 41) #[] #[.pointer (some ⟨w.heap.size + 1 + 1 + 1, 0, none⟩), .pointer (some ⟨w.heap.size + 1 + 1, 0, none⟩), .pointer (some ⟨w.heap.size, 0, none⟩), .pointer (some ⟨w.heap.size + 1 + 1 + 1 + 1, 0, none⟩)]] 60) := ⟨_, rfl⟩
  rw [← hW2]
  have hs2 : W2.heap.size = w.heap.size + 1 + 1 + 1 + 1 + 1 := by rw [hW2]; simp [hs1]
  have hb2 : Below W1.heap.size W1 W2 := by rw [hW2]; exact (((Below.refl _ _).alloc (Nat.le_refl _) _).alloc (by simp) _).alloc (by simp; omega) _
  have hA2 : Blk W2 (w.heap.size + 1 + 1) 3 #[.int .i64 ((0 : Nat) : Int)] := by
    rw [hW2, ← hs1]
    exact ((Blk.new W1 _ _).alloc _).alloc _
  have hP2 : Blk W2 (w.heap.size + 1 + 1 + 1) 59 #[.func (.func 40) #[] #[.pointer (some ⟨w.heap.size + 1 + 1, 0, none⟩), .pointer (some ⟨w.heap.size, 0, none⟩)]] := by
    rw [hW2]
    have := Blk.new (W1.alloc (.cells #[.int .i64 0] 3)) 59 #[.func (.func 40) #[] #[.pointer (some ⟨w.heap.size + 1 + 1, 0, none⟩), .pointer (some ⟨w.heap.size, 0, none⟩)]]
    rw [World.size_alloc, hs1] at this
    exact this.alloc _
  have hM2 : Blk W2 (w.heap.size + 1 + 1 + 1 + 1) 60 #[.func (.func 41) #[] #[.pointer (some ⟨w.heap.size + 1 + 1 + 1, 0, none⟩), .pointer (some ⟨w.heap.size + 1 + 1, 0, none⟩), .pointer (some ⟨w.heap.size, 0, none⟩), .pointer (some ⟨w.heap.size + 1 + 1 + 1 + 1, 0, none⟩)]] := by
    rw [hW2]
    have := Blk.new ((W1.alloc (.cells #[.int .i64 0] 3)).alloc (.cells #[.func (.func 40) #[] #[.pointer (some ⟨w.heap.size + 1 + 1, 0, none⟩), .pointer (some ⟨w.heap.size, 0, none⟩)]] 59)) 60 #[.func (.func 41) #[] #[.pointer (some ⟨w.heap.size + 1 + 1 + 1, 0, none⟩), .pointer (some ⟨w.heap.size + 1 + 1, 0, none⟩), .pointer (some ⟨w.heap.size, 0, none⟩), .pointer (some ⟨w.heap.size + 1 + 1 + 1 + 1, 0, none⟩)]]
    rw [World.size_alloc, World.size_alloc, hs1] at this
    exact this
  have hL2 := hL1.below hb2 (by omega)
  have hR2 := hR1.below hb2 (by omega)
  have hV2 : NumsV W2 w.heap.size A l := (HV.out.low hb1).low (hb2.mono (by omega))
  have hS2 : MkSt W2 w.heap.size (w.heap.size + 1 + 1) w.heap.size (w.heap.size + 1 + 1 + 1) (w.heap.size + 1 + 1 + 1 + 1) A c l := ⟨hP2, hM2, hL2, hV2, by omega, by omega, by omega, by omega⟩
  have hC := make_any l 6 (by decide) 0 W2 w.heap.size (w.heap.size + 1 + 1) w.heap.size (w.heap.size + 1 + 1 + 1) (w.heap.size + 1 + 1 + 1 + 1) c A (by decide) hl hc hS2 hA2
  have HB2 : Hid (Below w.heap.size w W2) := Lib.hid (hb1.trans (hb2.mono (by omega)))
  have HR2 := Lib.hid hR2
  clear hL1 hR1 hL2 hR2 hV2 hS2 hA2 hP2 hM2 hb1 hb2 hW2
  refine hC.mono ?_
  clear hC
  rintro e w7 ⟨A1, c1, rfl, hP⟩
  have hR7 := HR2.out.grown hP.g (by simp)
  have r0 := hR7.cell 0
  have r1 := hR7.cell 1
  have r2 := hR7.cell 2
  have r3 := hR7.cell 3
  have f0 := hR7.frozen 0
  have f1 := hR7.frozen 1
  have f2 := hR7.frozen 2
  have f3 := hR7.frozen 3
  have hs7 := hP.g.size
  have HR7 := Lib.hid hR7
  have HPg := Lib.hid hP.g
  have HPv := Lib.hid hP.v
  clear hR7 hP
  unfold fmA
  go_wp2_with fail
  clear r0 r1 r2 r3 f0 f1 f2 f3
  have hZ := (((HR7.out.set_ 0 (.int .i64 (mkF l 6 0).1.kind)).set_ 1 (.string ⟨(mkF l 6 0).1.name.toArray⟩)).set_ 2 (.int .i64 (mkF l 6 0).1.lit)).set_ 3 (.slice A1 (mkF l 6 0).1.kids.length c1)
  have z0 := hZ.cell 0
  have z1 := hZ.cell 1
  have z2 := hZ.cell 2
  have z3 := hZ.cell 3
  refine bodyPost_ret (v := .agg #[.int .i64 (mkF l 6 0).1.kind, .string ⟨(mkF l 6 0).1.name.toArray⟩, .int .i64 (mkF l 6 0).1.lit, .slice A1 (mkF l 6 0).1.kids.length c1]) (by simp [results, Tryd.results25, go_sem, z0, z1, z2, z3]) rfl ⟨A1, c1, rfl, ?_, ?_⟩
  · have hst : ∀ (W : World) (j : Nat) (u : Value) (b : Nat), b ≠ w.heap.size + 1 → (W.setCell ⟨w.heap.size + 1, j, none⟩ u).heap[b]? = W.heap[b]? := fun W j u b hb => Below.heap_setCell W ⟨w.heap.size + 1, j, none⟩ u b hb
    refine (HPv.out.keep fun b h1 h2 => ?_).wide (by omega) (by simp [World.setCell])
    rw [hst _ _ _ _ (by omega), hst _ _ _ _ (by omega), hst _ _ _ _ (by omega), hst _ _ _ _ (by omega)]
  · have h7 : Below w.heap.size w w7 := HB2.out.grown HPg.out (by omega) (fun k hk => by cases hk; omega)
    exact (((h7.setCell (p := ⟨w.heap.size + 1, 0, none⟩) (by simp) _).setCell (p := ⟨w.heap.size + 1, 1, none⟩) (by simp) _).setCell (p := ⟨w.heap.size + 1, 2, none⟩) (by simp) _).setCell (p := ⟨w.heap.size + 1, 3, none⟩) (by simp) _
end Go.Proofs.YtijecfmblddanaaDoor
