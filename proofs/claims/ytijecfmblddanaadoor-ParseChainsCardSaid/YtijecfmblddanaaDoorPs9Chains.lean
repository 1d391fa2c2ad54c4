/- Parsing: ParseChains. -/
import Derived.Test.YtijecfmblddanaaDoorG1
import Derived.Test.YtijecfmblddanaaDoorG12
import Derived.Test.YtijecfmblddanaaDoorPs9Same
import Derived.Test.YtijecfmblddanaaDoorG14
set_option linter.unusedVariables false
set_option linter.unusedSimpArgs false
namespace Go.Proofs.YtijecfmblddanaaDoor
open Go.RowKit Go.Maps

def sgs9 : List (List UInt8) := [[38], [124], [45, 62], [60, 45, 62]]
def pts9 : List (List UInt8) := [[98], [33, 99], [69, 88, 32, 100], [40, 101, 41], [69, 91, 102, 32, 85, 32, 103, 93], [65, 32, 91, 104, 38, 105, 32, 82, 32, 106, 93], [116, 114, 117, 101]]
def sg9 (x : Int) : List UInt8 := sgs9.getD (x % 4).toNat []
def pt9 (x : Int) : List UInt8 := pts9.getD (x / 4 % 7).toNat []
def chainTo (l : List Int) (k : Nat) : List UInt8 := 97 :: (l.take k).flatMap fun x => sg9 x ++ pt9 x
theorem sgs9_len : ∀ i : Nat, (sgs9.getD i []).length ≤ 3
  | 0 => by decide
  | 1 => by decide
  | 2 => by decide
  | 3 => by decide
  | n + 4 => by simp [sgs9]
theorem pts9_len : ∀ i : Nat, (pts9.getD i []).length ≤ 11
  | 0 => by decide
  | 1 => by decide
  | 2 => by decide
  | 3 => by decide
  | 4 => by decide
  | 5 => by decide
  | 6 => by decide
  | n + 7 => by simp [pts9]
theorem chainTo_len (l : List Int) (k : Nat) : (chainTo l k).length ≤ 1 + 14 * k := by
  have h : ∀ m : List Int, (m.flatMap fun x => sg9 x ++ pt9 x).length ≤ 14 * m.length := fun m => by
    induction m with
    | nil => simp
    | cons a m ih =>
      simp only [List.flatMap_cons, List.length_append, List.length_cons]
      have h1 : (sg9 a).length ≤ 3 := sgs9_len _
      have h2 : (pt9 a).length ≤ 11 := pts9_len _
      omega
  have := h (l.take k)
  have := List.length_take_le k l
  unfold chainTo
  rw [List.length_cons]
  omega
theorem chainTo_snoc (l : List Int) (k : Nat) (x : Int) (h : l[k]? = some x) : chainTo l (k + 1) = (chainTo l k ++ sg9 x) ++ pt9 x := by
  unfold chainTo
  rw [List.take_add_one, h, List.flatMap_append]
  simp
theorem sg9_at (x : Int) : (#[.string ⟨#[38]⟩, .string ⟨#[124]⟩, .string ⟨#[45, 62]⟩, .string ⟨#[60, 45, 62]⟩] : Array Value)[(x % 4).toNat]? = some (.string ⟨(sg9 x).toArray⟩) := by
  have h : ∀ i : Nat, i < 4 → (#[.string ⟨#[38]⟩, .string ⟨#[124]⟩, .string ⟨#[45, 62]⟩, .string ⟨#[60, 45, 62]⟩] : Array Value)[i]? = some (.string ⟨(sgs9.getD i []).toArray⟩) := fun i hi => by
    match i, hi with
    | 0, _ => rfl
    | 1, _ => rfl
    | 2, _ => rfl
    | 3, _ => rfl
  exact h _ (by omega)
theorem pt9_at (x : Int) : (#[.string ⟨#[98]⟩, .string ⟨#[33, 99]⟩, .string ⟨#[69, 88, 32, 100]⟩, .string ⟨#[40, 101, 41]⟩, .string ⟨#[69, 91, 102, 32, 85, 32, 103, 93]⟩, .string ⟨#[65, 32, 91, 104, 38, 105, 32, 82, 32, 106, 93]⟩, .string ⟨#[116, 114, 117, 101]⟩] : Array Value)[(x / 4 % 7).toNat]? = some (.string ⟨(pt9 x).toArray⟩) := by
  have h : ∀ i : Nat, i < 7 → (#[.string ⟨#[98]⟩, .string ⟨#[33, 99]⟩, .string ⟨#[69, 88, 32, 100]⟩, .string ⟨#[40, 101, 41]⟩, .string ⟨#[69, 91, 102, 32, 85, 32, 103, 93]⟩, .string ⟨#[65, 32, 91, 104, 38, 105, 32, 82, 32, 106, 93]⟩, .string ⟨#[116, 114, 117, 101]⟩] : Array Value)[i]? = some (.string ⟨(pts9.getD i []).toArray⟩) := fun i hi => by
    match i, hi with
    | 0, _ => rfl
    | 1, _ => rfl
    | 2, _ => rfl
    | 3, _ => rfl
    | 4, _ => rfl
    | 5, _ => rfl
    | 6, _ => rfl
  exact h _ (by omega)

set_option maxRecDepth 100000 in
set_option maxHeartbeats 2000000 in
theorem parseChains_any (l : List Int) (A : Option Addr) (c : Nat) (w : World) (hr : ∀ x ∈ l, 0 ≤ x ∧ x ≤ 255) (hc : l.length ≤ c) (hl : c ≤ 140737488355328) (hA : Vals w w.heap.size A (l.map (.int .u8 ·))) :
    Calls Tryd.prog 15 #[.slice A l.length c] w (Ret w (.bool true)) := by
  have HA := Lib.hid hA
  have HR := Lib.hid hr
  clear hA hr
  have HFIN : Hid (∀ (k : Nat), k ≤ 20 → ∀ W, Calls Tryd.prog 30 #[.string ⟨(chainTo l k).toArray⟩] W (Ret W (.bool true))) := Lib.hid fun k hk W => same9_any _ (by
    show (chainTo l k).toArray.size ≤ _
    rw [List.size_toArray]
    have := chainTo_len l k
    omega) W
  go_enter Tryd.func15, Tryd.ntmps15
  go_wp2_with fail
  go_loopw [3, 4] (fun s i wr => ∃ k : Nat, k ≤ l.length ∧ k ≤ 20 ∧ i = .int .i64 (k : Int) ∧ s = .string ⟨(chainTo l k).toArray⟩ ∧ Below w.heap.size w wr) (fun _ i _ => l.length - (intOf i).toNat)
  case atStart => exact ⟨0, Nat.zero_le _, Nat.zero_le _, rfl, rfl, Below.refl _ _⟩
  case round =>
    obtain ⟨k, hk, hk2, rfl, rfl, hlow⟩ := hrel
    have HB := Lib.hid hlow
    clear hlow
    by_cases hlt : k < l.length
    · have hlt' : (k : Int) < (l.length : Int) := by omega
      by_cases h20 : k < 20
      · have h20' : (k : Int) < 20 := by omega
        obtain ⟨x, hx⟩ : ∃ x, l[k]? = some x := ⟨_, List.getElem?_eq_getElem hlt⟩
        obtain ⟨hx0, hx1⟩ := HR.out x (List.mem_of_getElem? hx)
        obtain ⟨b, o, rfl, hb, hcx⟩ := (HA.out.after HB.out) k (.int .u8 x) (by rw [List.getElem?_map, hx]; rfl)
        have HSN := Lib.hid (chainTo_snoc l k x hx)
        have HSA := Lib.hid ((congrArg (· ++ (⟨(pt9 x).toArray⟩ : ByteArray)) (str_app (chainTo l k) (sg9 x))).trans (str_app (chainTo l k ++ sg9 x) (pt9 x)))
        have HS := Lib.hid (sg9_at x)
        have HT := Lib.hid (pt9_at x)
        have hq4 : x.tmod 4 = x % 4 := Int.tmod_eq_emod_of_nonneg hx0
        have hqd : IntKind.i64.wrap (x.tdiv 4) = x / 4 := by
          rw [Int.tdiv_eq_ediv_of_nonneg hx0]
          rw [IntKind.wrap_i64]
          omega
        have hq7 : (x / 4).tmod 7 = x / 4 % 7 := Int.tmod_eq_emod_of_nonneg (by omega)
        have hm0 : 0 ≤ x % 4 := by omega
        have hm1 : x % 4 < 4 := by omega
        have hm2 : 0 ≤ x / 4 := by omega
        have hm3 : 0 ≤ x / 4 % 7 := by omega
        have hm4 : x / 4 % 7 < 7 := by omega
        clear hx
        have hsz0 : (⟨(chainTo l k).toArray⟩ : ByteArray).size ≤ 300 := by
          show (chainTo l k).toArray.size ≤ _
          rw [List.size_toArray]
          have := chainTo_len l k
          omega
        have hsz1 : (⟨(sg9 x).toArray⟩ : ByteArray).size ≤ 3 := by
          show (sg9 x).toArray.size ≤ _
          rw [List.size_toArray]
          exact sgs9_len _
        have hsz2 : (⟨(pt9 x).toArray⟩ : ByteArray).size ≤ 11 := by
          show (pt9 x).toArray.size ≤ _
          rw [List.size_toArray]
          exact pts9_len _
        generalize (⟨(pt9 x).toArray⟩ : ByteArray) = PTV at HSA hsz2 HT
        generalize (⟨(sg9 x).toArray⟩ : ByteArray) = SGV at HSA hsz1 HS
        generalize (⟨(chainTo l k).toArray⟩ : ByteArray) = SS at HSA hsz0 ⊢
        have hs1 : ¬ 9223372036854775807 < SS.size + SGV.size := by omega
        have hs1' : SS.size + SGV.size ≤ 9223372036854775807 := by omega
        have hs2 : ¬ 9223372036854775807 < SS.size + SGV.size + PTV.size := by omega
        have hs2' : SS.size + SGV.size + PTV.size ≤ 9223372036854775807 := by omega
        go_wp2_with fail
        refine wp_region_noPanic ?_
        refine wp_region_grow (fun _ => True) (Ord.ofList [0, 2, 3, 8, 9, 10] (.fork 1 (Ord.ofList [4, 5, 6, 7, 11, 12, 13, 14] .done) 7 (Ord.ofList [11, 12, 1, 4, 5, 6, 13, 14] .done))) [0, 2, 3, 4, 5, 6, 8, 9, 10, 11, 12, 13, 14] (by kernel_rfl) (by kernel_rfl) rfl (by kernel_rfl) (fun _ _ _ _ _ h => h) ?_ (fun hSS => ?_)
        · trivial
        have HW0 := Lib.hid (step2 HB.out (stepD1 wr))
        clear hSS hcx
        generalize wr.drew = w0 at HW0 ⊢
        (refine wpGrow_mov rfl rfl ?_; intro o ho; simp only [List.getElem?_toArray, List.getElem?_cons_zero, List.getElem?_cons_succ, Option.some.injEq] at ho; subst ho; refine ⟨?_, Or.inl ⟨by rfl, fun W hSW => ?_⟩, ?_⟩; rotate_left; (focus (go_simp; first | done | with_reducible rfl)); try simp only [Act.put, List.setIfInBounds_toArray, List.set_cons_zero, List.set_cons_succ])
        (refine wpGrow_mov rfl rfl ?_; intro o ho; simp only [List.getElem?_toArray, List.getElem?_cons_zero, List.getElem?_cons_succ, Option.some.injEq] at ho; subst ho; refine ⟨?_, Or.inl ⟨by rfl, fun W hSW => ?_⟩, ?_⟩; rotate_left; (focus (go_simp; first | done | with_reducible rfl)); try simp only [Act.put, List.setIfInBounds_toArray, List.set_cons_zero, List.set_cons_succ])
        (refine wpGrow_mov rfl rfl ?_; intro o ho; simp only [List.getElem?_toArray, List.getElem?_cons_zero, List.getElem?_cons_succ, Option.some.injEq] at ho; subst ho; refine ⟨?_, Or.inl ⟨by rfl, fun W hSW => ?_⟩, ?_⟩; rotate_left; (focus (go_simp; first | done | with_reducible rfl)); try simp only [Act.put, List.setIfInBounds_toArray, List.set_cons_zero, List.set_cons_succ])
        (refine wpGrow_mov rfl rfl ?_; intro o ho; simp only [List.getElem?_toArray, List.getElem?_cons_zero, List.getElem?_cons_succ, Option.some.injEq] at ho; subst ho; refine ⟨?_, Or.inl ⟨by rfl, fun W hSW => ?_⟩, ?_⟩; rotate_left; (focus (go_simp; first | done | with_reducible rfl)); try simp only [Act.put, List.setIfInBounds_toArray, List.set_cons_zero, List.set_cons_succ])
        (refine wpGrow_mov rfl rfl ?_; intro o ho; simp only [List.getElem?_toArray, List.getElem?_cons_zero, List.getElem?_cons_succ, Option.some.injEq] at ho; subst ho; refine ⟨?_, Or.inl ⟨by rfl, fun W hSW => ?_⟩, ?_⟩; rotate_left; (focus (go_simp; first | done | with_reducible rfl)); try simp only [Act.put, List.setIfInBounds_toArray, List.set_cons_zero, List.set_cons_succ])
        (refine wpGrow_mov rfl rfl ?_; intro o ho; simp only [List.getElem?_toArray, List.getElem?_cons_zero, List.getElem?_cons_succ, Option.some.injEq] at ho; subst ho; refine ⟨?_, Or.inl ⟨by rfl, fun W hSW => ?_⟩, ?_⟩; rotate_left; (focus (go_simp; first | done | with_reducible rfl)); try simp only [Act.put, List.setIfInBounds_toArray, List.set_cons_zero, List.set_cons_succ])
        refine wpGrow_fork ?_ ?_
        · skip
          (refine growW_of rfl ?_; intro o ho; simp only [List.getElem?_toArray, List.getElem?_cons_zero, List.getElem?_cons_succ, Option.some.injEq] at ho; subst ho; intro K hK)
          go_simp
          have HW1 := Lib.hid (step2 HW0.out (stepA w0 (.cells #[.string ⟨#[38]⟩, .string ⟨#[124]⟩, .string ⟨#[45, 62]⟩, .string ⟨#[60, 45, 62]⟩] 9)))
          have HR1 := Lib.hid (Blk.new w0 9 #[.string ⟨#[38]⟩, .string ⟨#[124]⟩, .string ⟨#[45, 62]⟩, .string ⟨#[60, 45, 62]⟩])
          (refine hK.out _ _ ⟨(fun W => W.cell? ⟨w0.heap.size, (x % 4).toNat, none⟩ = some (.string SGV)), (fun _ _ => trivial), (HR1.out.cell _).trans HS.out, ?_⟩; clear hK K; try simp only [Act.put, List.setIfInBounds_toArray, List.set_cons_zero, List.set_cons_succ])
          generalize w0.heap.size = ra at HR1 ⊢
          generalize (w0.alloc (.cells #[.string ⟨#[38]⟩, .string ⟨#[124]⟩, .string ⟨#[45, 62]⟩, .string ⟨#[60, 45, 62]⟩] 9)) = w1 at HW1 HR1 ⊢
          (refine wpGrow_mov rfl rfl ?_; intro o ho; simp only [List.getElem?_toArray, List.getElem?_cons_zero, List.getElem?_cons_succ, Option.some.injEq] at ho; subst ho; refine ⟨?_, Or.inl ⟨by rfl, fun W hSW => ?_⟩, ?_⟩; rotate_left; (focus (go_simp; first | done | with_reducible rfl)); try simp only [Act.put, List.setIfInBounds_toArray, List.set_cons_zero, List.set_cons_succ])
          (refine wpGrow_mov rfl rfl ?_; intro o ho; simp only [List.getElem?_toArray, List.getElem?_cons_zero, List.getElem?_cons_succ, Option.some.injEq] at ho; subst ho; refine ⟨?_, Or.inl ⟨by rfl, fun W hSW => ?_⟩, ?_⟩; rotate_left; (focus (go_simp; first | done | with_reducible rfl)); try simp only [Act.put, List.setIfInBounds_toArray, List.set_cons_zero, List.set_cons_succ])
          (refine wpGrow_mov rfl rfl ?_; intro o ho; simp only [List.getElem?_toArray, List.getElem?_cons_zero, List.getElem?_cons_succ, Option.some.injEq] at ho; subst ho; refine ⟨?_, Or.inl ⟨by rfl, fun W hSW => ?_⟩, ?_⟩; rotate_left; (focus (go_simp; first | done | with_reducible rfl)); try simp only [Act.put, List.setIfInBounds_toArray, List.set_cons_zero, List.set_cons_succ])
          (refine wpGrow_fix rfl rfl ?_; intro o ho; simp only [List.getElem?_toArray, List.getElem?_cons_zero, List.getElem?_cons_succ, Option.some.injEq] at ho; subst ho; intro K hK)
          go_simp
          have HW2 := Lib.hid (step2 HW1.out (stepA w1 (.cells #[.string ⟨#[98]⟩, .string ⟨#[33, 99]⟩, .string ⟨#[69, 88, 32, 100]⟩, .string ⟨#[40, 101, 41]⟩, .string ⟨#[69, 91, 102, 32, 85, 32, 103, 93]⟩, .string ⟨#[65, 32, 91, 104, 38, 105, 32, 82, 32, 106, 93]⟩, .string ⟨#[116, 114, 117, 101]⟩] 9)))
          have HR2 := Lib.hid (HR1.out.alloc (.cells #[.string ⟨#[98]⟩, .string ⟨#[33, 99]⟩, .string ⟨#[69, 88, 32, 100]⟩, .string ⟨#[40, 101, 41]⟩, .string ⟨#[69, 91, 102, 32, 85, 32, 103, 93]⟩, .string ⟨#[65, 32, 91, 104, 38, 105, 32, 82, 32, 106, 93]⟩, .string ⟨#[116, 114, 117, 101]⟩] 9))
          have HR3 := Lib.hid (Blk.new w1 9 #[.string ⟨#[98]⟩, .string ⟨#[33, 99]⟩, .string ⟨#[69, 88, 32, 100]⟩, .string ⟨#[40, 101, 41]⟩, .string ⟨#[69, 91, 102, 32, 85, 32, 103, 93]⟩, .string ⟨#[65, 32, 91, 104, 38, 105, 32, 82, 32, 106, 93]⟩, .string ⟨#[116, 114, 117, 101]⟩])
          (refine hK.out _ _ ⟨(fun W => W.cell? ⟨ra, (x % 4).toNat, none⟩ = some (.string SGV) ∧ W.cell? ⟨w1.heap.size, (x / 4 % 7).toNat, none⟩ = some (.string PTV)), (fun _ h => h.1), ⟨(HR2.out.cell _).trans HS.out, (HR3.out.cell _).trans HT.out⟩, ?_⟩; clear hK K; try simp only [Act.put, List.setIfInBounds_toArray, List.set_cons_zero, List.set_cons_succ])
          generalize w1.heap.size = rb at HR3 ⊢
          generalize (w1.alloc (.cells #[.string ⟨#[98]⟩, .string ⟨#[33, 99]⟩, .string ⟨#[69, 88, 32, 100]⟩, .string ⟨#[40, 101, 41]⟩, .string ⟨#[69, 91, 102, 32, 85, 32, 103, 93]⟩, .string ⟨#[65, 32, 91, 104, 38, 105, 32, 82, 32, 106, 93]⟩, .string ⟨#[116, 114, 117, 101]⟩] 9)) = w2 at HW2 HR2 HR3 ⊢
          (refine wpGrow_mov rfl rfl ?_; intro o ho; simp only [List.getElem?_toArray, List.getElem?_cons_zero, List.getElem?_cons_succ, Option.some.injEq] at ho; subst ho; refine ⟨?_, Or.inl ⟨by rfl, fun W hSW => ?_⟩, ?_⟩; rotate_left; (focus (go_simp; first | done | with_reducible rfl)); try simp only [Act.put, List.setIfInBounds_toArray, List.set_cons_zero, List.set_cons_succ])
          (refine wpGrow_mov rfl rfl ?_; intro o ho; simp only [List.getElem?_toArray, List.getElem?_cons_zero, List.getElem?_cons_succ, Option.some.injEq] at ho; subst ho; refine ⟨?_, Or.inl ⟨by rfl, fun W hSW => ?_⟩, ?_⟩; rotate_left; (focus (go_simp; first | done | with_reducible rfl)); try simp only [Act.put, List.setIfInBounds_toArray, List.set_cons_zero, List.set_cons_succ])
          (refine wpGrow_mov rfl rfl ?_; intro o ho; simp only [List.getElem?_toArray, List.getElem?_cons_zero, List.getElem?_cons_succ, Option.some.injEq] at ho; subst ho; refine ⟨?_, Or.inl ⟨by rfl, fun W hSW => ?_⟩, ?_⟩; rotate_left; (focus (go_simp; first | done | with_reducible rfl)); try simp only [Act.put, List.setIfInBounds_toArray, List.set_cons_zero, List.set_cons_succ])
          (refine wpGrow_mov rfl rfl ?_; intro o ho; simp only [List.getElem?_toArray, List.getElem?_cons_zero, List.getElem?_cons_succ, Option.some.injEq] at ho; subst ho; refine ⟨?_, Or.inl ⟨by rfl, fun W hSW => ?_⟩, ?_⟩; rotate_left; (focus (go_simp; first | done | with_reducible rfl)); try simp only [Act.put, List.setIfInBounds_toArray, List.set_cons_zero, List.set_cons_succ])
          refine wpGrow_done ?_
          go_wp2_with fail
          go_roundw
          case rel => exact ⟨k + 1, by omega, by omega, by go_num, by rw [HSN.out, HSA.out], HW2.out⟩
          case measure => simp [intOf]; omega
        · skip
          (refine growW_of rfl ?_; intro o ho; simp only [List.getElem?_toArray, List.getElem?_cons_zero, List.getElem?_cons_succ, Option.some.injEq] at ho; subst ho; intro K hK)
          go_simp
          have HW1 := Lib.hid (step2 HW0.out (stepA w0 (.cells #[.string ⟨#[98]⟩, .string ⟨#[33, 99]⟩, .string ⟨#[69, 88, 32, 100]⟩, .string ⟨#[40, 101, 41]⟩, .string ⟨#[69, 91, 102, 32, 85, 32, 103, 93]⟩, .string ⟨#[65, 32, 91, 104, 38, 105, 32, 82, 32, 106, 93]⟩, .string ⟨#[116, 114, 117, 101]⟩] 9)))
          have HR1 := Lib.hid (Blk.new w0 9 #[.string ⟨#[98]⟩, .string ⟨#[33, 99]⟩, .string ⟨#[69, 88, 32, 100]⟩, .string ⟨#[40, 101, 41]⟩, .string ⟨#[69, 91, 102, 32, 85, 32, 103, 93]⟩, .string ⟨#[65, 32, 91, 104, 38, 105, 32, 82, 32, 106, 93]⟩, .string ⟨#[116, 114, 117, 101]⟩])
          (refine hK.out _ _ ⟨(fun W => W.cell? ⟨w0.heap.size, (x / 4 % 7).toNat, none⟩ = some (.string PTV)), (fun _ _ => trivial), (HR1.out.cell _).trans HT.out, ?_⟩; clear hK K; try simp only [Act.put, List.setIfInBounds_toArray, List.set_cons_zero, List.set_cons_succ])
          generalize w0.heap.size = ra at HR1 ⊢
          generalize (w0.alloc (.cells #[.string ⟨#[98]⟩, .string ⟨#[33, 99]⟩, .string ⟨#[69, 88, 32, 100]⟩, .string ⟨#[40, 101, 41]⟩, .string ⟨#[69, 91, 102, 32, 85, 32, 103, 93]⟩, .string ⟨#[65, 32, 91, 104, 38, 105, 32, 82, 32, 106, 93]⟩, .string ⟨#[116, 114, 117, 101]⟩] 9)) = w1 at HW1 HR1 ⊢
          (refine wpGrow_mov rfl rfl ?_; intro o ho; simp only [List.getElem?_toArray, List.getElem?_cons_zero, List.getElem?_cons_succ, Option.some.injEq] at ho; subst ho; refine ⟨?_, Or.inl ⟨by rfl, fun W hSW => ?_⟩, ?_⟩; rotate_left; (focus (go_simp; first | done | with_reducible rfl)); try simp only [Act.put, List.setIfInBounds_toArray, List.set_cons_zero, List.set_cons_succ])
          (refine wpGrow_mov rfl rfl ?_; intro o ho; simp only [List.getElem?_toArray, List.getElem?_cons_zero, List.getElem?_cons_succ, Option.some.injEq] at ho; subst ho; refine ⟨?_, Or.inl ⟨by rfl, fun W hSW => ?_⟩, ?_⟩; rotate_left; (focus (go_simp; first | done | with_reducible rfl)); try simp only [Act.put, List.setIfInBounds_toArray, List.set_cons_zero, List.set_cons_succ])
          (refine wpGrow_fix rfl rfl ?_; intro o ho; simp only [List.getElem?_toArray, List.getElem?_cons_zero, List.getElem?_cons_succ, Option.some.injEq] at ho; subst ho; intro K hK)
          go_simp
          have HW2 := Lib.hid (step2 HW1.out (stepA w1 (.cells #[.string ⟨#[38]⟩, .string ⟨#[124]⟩, .string ⟨#[45, 62]⟩, .string ⟨#[60, 45, 62]⟩] 9)))
          have HR2 := Lib.hid (HR1.out.alloc (.cells #[.string ⟨#[38]⟩, .string ⟨#[124]⟩, .string ⟨#[45, 62]⟩, .string ⟨#[60, 45, 62]⟩] 9))
          have HR3 := Lib.hid (Blk.new w1 9 #[.string ⟨#[38]⟩, .string ⟨#[124]⟩, .string ⟨#[45, 62]⟩, .string ⟨#[60, 45, 62]⟩])
          (refine hK.out _ _ ⟨(fun W => W.cell? ⟨ra, (x / 4 % 7).toNat, none⟩ = some (.string PTV) ∧ W.cell? ⟨w1.heap.size, (x % 4).toNat, none⟩ = some (.string SGV)), (fun _ h => h.1), ⟨(HR2.out.cell _).trans HT.out, (HR3.out.cell _).trans HS.out⟩, ?_⟩; clear hK K; try simp only [Act.put, List.setIfInBounds_toArray, List.set_cons_zero, List.set_cons_succ])
          generalize w1.heap.size = rb at HR3 ⊢
          generalize (w1.alloc (.cells #[.string ⟨#[38]⟩, .string ⟨#[124]⟩, .string ⟨#[45, 62]⟩, .string ⟨#[60, 45, 62]⟩] 9)) = w2 at HW2 HR2 HR3 ⊢
          (refine wpGrow_mov rfl rfl ?_; intro o ho; simp only [List.getElem?_toArray, List.getElem?_cons_zero, List.getElem?_cons_succ, Option.some.injEq] at ho; subst ho; refine ⟨?_, Or.inl ⟨by rfl, fun W hSW => ?_⟩, ?_⟩; rotate_left; (focus (go_simp; first | done | with_reducible rfl)); try simp only [Act.put, List.setIfInBounds_toArray, List.set_cons_zero, List.set_cons_succ])
          (refine wpGrow_mov rfl rfl ?_; intro o ho; simp only [List.getElem?_toArray, List.getElem?_cons_zero, List.getElem?_cons_succ, Option.some.injEq] at ho; subst ho; refine ⟨?_, Or.inl ⟨by rfl, fun W hSW => ?_⟩, ?_⟩; rotate_left; (focus (go_simp; first | done | with_reducible rfl)); try simp only [Act.put, List.setIfInBounds_toArray, List.set_cons_zero, List.set_cons_succ])
          (refine wpGrow_mov rfl rfl ?_; intro o ho; simp only [List.getElem?_toArray, List.getElem?_cons_zero, List.getElem?_cons_succ, Option.some.injEq] at ho; subst ho; refine ⟨?_, Or.inl ⟨by rfl, fun W hSW => ?_⟩, ?_⟩; rotate_left; (focus (go_simp; first | done | with_reducible rfl)); try simp only [Act.put, List.setIfInBounds_toArray, List.set_cons_zero, List.set_cons_succ])
          (refine wpGrow_mov rfl rfl ?_; intro o ho; simp only [List.getElem?_toArray, List.getElem?_cons_zero, List.getElem?_cons_succ, Option.some.injEq] at ho; subst ho; refine ⟨?_, Or.inl ⟨by rfl, fun W hSW => ?_⟩, ?_⟩; rotate_left; (focus (go_simp; first | done | with_reducible rfl)); try simp only [Act.put, List.setIfInBounds_toArray, List.set_cons_zero, List.set_cons_succ])
          (refine wpGrow_mov rfl rfl ?_; intro o ho; simp only [List.getElem?_toArray, List.getElem?_cons_zero, List.getElem?_cons_succ, Option.some.injEq] at ho; subst ho; refine ⟨?_, Or.inl ⟨by rfl, fun W hSW => ?_⟩, ?_⟩; rotate_left; (focus (go_simp; first | done | with_reducible rfl)); try simp only [Act.put, List.setIfInBounds_toArray, List.set_cons_zero, List.set_cons_succ])
          refine wpGrow_done ?_
          go_wp2_with fail
          go_roundw
          case rel => exact ⟨k + 1, by omega, by omega, by go_num, by rw [HSN.out, HSA.out], HW2.out⟩
          case measure => simp [intOf]; omega
      · have h20' : ¬ ((k : Int) < 20) := by omega
        go_wp2_with fail
        refine (awake9_any _).mono ?_
        rintro e w1 ⟨rfl, hb1⟩
        have HB1 := Lib.hid hb1
        clear hb1
        go_wp2_with fail
        refine (HFIN.out k hk2 _).mono ?_
        rintro e w2 ⟨rfl, hb2⟩
        have HB2 := Lib.hid hb2
        clear hb2
        go_wp2_with fail
        go_ret
        exact ⟨rfl, step2 (step2 HB.out HB1.out) HB2.out⟩
    · have hlt' : ¬ ((k : Int) < (l.length : Int)) := by omega
      go_wp2_with fail
      refine (awake9_any _).mono ?_
      rintro e w1 ⟨rfl, hb1⟩
      have HB1 := Lib.hid hb1
      clear hb1
      go_wp2_with fail
      refine (HFIN.out k hk2 _).mono ?_
      rintro e w2 ⟨rfl, hb2⟩
      have HB2 := Lib.hid hb2
      clear hb2
      go_wp2_with fail
      go_ret
      exact ⟨rfl, step2 (step2 HB.out HB1.out) HB2.out⟩
end Go.Proofs.YtijecfmblddanaaDoor
