/- Formulas, the statements' awake. -/
import Derived.Test.YtijecfmblddanaaDoorG6
import Derived.Test.YtijecfmblddanaaDoorG7
set_option linter.unusedVariables false
set_option linter.unusedSimpArgs false
namespace Go.Proofs.YtijecfmblddanaaDoor
open Go.RowKit Go.Maps

section
variable {w : World} {B b T : Nat} {k j : Fm} {Ak Aj : Option Addr} {ck cj : Nat}
theorem FmV.leaf (h1 : -9223372036854775808 ≤ k.kind ∧ k.kind ≤ 9223372036854775807) (h2 : k.name.length ≤ 140737488355328) (hk : k.kids = []) (hc : ck ≤ 140737488355328) : FmV w B k Ak ck :=
  ⟨by rw [hk]; exact Nat.zero_le _, by rw [hk]; exact Nat.zero_le _, h1, h2, by rw [hk]; exact .nil _⟩
theorem FmS.one (hb : b < B) (h : Blk w b T #[.int .i64 k.kind, .string ⟨k.name.toArray⟩, .int .i64 k.lit, .slice Ak k.kids.length ck]) (hk : FmV w B k Ak ck) : FmS w B [k] (some ⟨b, 0, none⟩) :=
  .mk [k] b 0 (fun _ => Ak) (fun _ => ck) hb (fun i f hi => by
    cases i with
    | zero => cases hi; exact ⟨⟨h.cell 0, h.cell 1, h.cell 2, h.cell 3⟩, hk.cap, hk.big, hk.kind, hk.name⟩
    | succ i => simp at hi) (fun i f hi => by
    cases i with
    | zero => cases hi; exact hk.kids
    | succ i => simp at hi)
theorem FmS.two (hb : b < B) (h : Blk w b T #[.int .i64 k.kind, .string ⟨k.name.toArray⟩, .int .i64 k.lit, .slice Ak k.kids.length ck, .int .i64 j.kind, .string ⟨j.name.toArray⟩, .int .i64 j.lit, .slice Aj j.kids.length cj]) (hk : FmV w B k Ak ck) (hj : FmV w B j Aj cj) : FmS w B [k, j] (some ⟨b, 0, none⟩) :=
  .mk [k, j] b 0 (fun i => if i = 0 then Ak else Aj) (fun i => if i = 0 then ck else cj) hb (fun i f hi => by
    match i, hi with
    | 0, hi => cases hi; exact ⟨⟨h.cell 0, h.cell 1, h.cell 2, h.cell 3⟩, hk.cap, hk.big, hk.kind, hk.name⟩
    | 1, hi => cases hi; exact ⟨⟨h.cell 4, h.cell 5, h.cell 6, h.cell 7⟩, hj.cap, hj.big, hj.kind, hj.name⟩
    | i + 2, hi => simp at hi) (fun i f hi => by
    match i, hi with
    | 0, hi => cases hi; exact hk.kids
    | 1, hi => cases hi; exact hj.kids
    | i + 2, hi => simp at hi)
theorem FmV.of (hs : FmS w B k.kids Ak) (h1 : -9223372036854775808 ≤ k.kind ∧ k.kind ≤ 9223372036854775807) (h2 : k.name.length ≤ 140737488355328) (hk : k.kids.length ≤ ck) (hc : ck ≤ 140737488355328) : FmV w B k Ak ck := ⟨hk, Nat.le_trans hk hc, h1, h2, hs⟩
end

def aw0 : Fm := .mk 12 [] 0 [atomF [97, 99, 107]]
def aw1 : Fm := .mk 7 [] 0 [atomF [114, 101, 113], aw0]
def awF : Fm := .mk 14 [] 0 [aw1]
def awG : Fm := .mk 15 [] 0 [atomF [69], atomF [97, 46, 98]]
def awT : List UInt8 := [65, 71, 32, 40, 114, 101, 113, 32, 45, 62, 32, 65, 70, 32, 97, 99, 107, 41]
theorem awF_print : awF.print = (awT, 0) := by kernel_rfl
theorem awG_print : awG.print = ([69, 32, 91, 34, 69, 34, 32, 85, 32, 34, 97, 46, 98, 34, 93], 0) := by kernel_rfl
theorem aw0_print : (Fm.mk 0 [] 0 []).print = ([], 1) := by kernel_rfl
theorem awF_size : awF.size = 5 := by kernel_rfl
theorem awT_lex : (lexOf awT).2 = (0, 0) := by kernel_rfl
theorem awT_len : (lexOf awT).1.length = 8 := by kernel_rfl

theorem awF_mem (w2 : World) : FmV ((((w2.alloc (.cells #[.int .i64 3, .string ⟨#[97, 99, 107]⟩, .int .i64 0, .slice none 0 0] 37)).alloc (.cells #[.int .i64 3, .string ⟨#[114, 101, 113]⟩, .int .i64 0, .slice none 0 0, .int .i64 12, .string ⟨#[]⟩, .int .i64 0, .slice (some ⟨w2.heap.size, 0, none⟩) 1 1] 37)).alloc (.cells #[.int .i64 7, .string ⟨#[]⟩, .int .i64 0, .slice (some ⟨w2.heap.size + 1, 0, none⟩) 2 2] 37)).alloc (.cells #[.int .i64 14, .string ⟨#[]⟩, .int .i64 0, .slice (some ⟨w2.heap.size + 1 + 1, 0, none⟩) 1 1] 37)) ((((w2.alloc (.cells #[.int .i64 3, .string ⟨#[97, 99, 107]⟩, .int .i64 0, .slice none 0 0] 37)).alloc (.cells #[.int .i64 3, .string ⟨#[114, 101, 113]⟩, .int .i64 0, .slice none 0 0, .int .i64 12, .string ⟨#[]⟩, .int .i64 0, .slice (some ⟨w2.heap.size, 0, none⟩) 1 1] 37)).alloc (.cells #[.int .i64 7, .string ⟨#[]⟩, .int .i64 0, .slice (some ⟨w2.heap.size + 1, 0, none⟩) 2 2] 37)).alloc (.cells #[.int .i64 14, .string ⟨#[]⟩, .int .i64 0, .slice (some ⟨w2.heap.size + 1 + 1, 0, none⟩) 1 1] 37)).heap.size awF (some ⟨w2.heap.size + 1 + 1, 0, none⟩) 1 ∧ Blk ((((w2.alloc (.cells #[.int .i64 3, .string ⟨#[97, 99, 107]⟩, .int .i64 0, .slice none 0 0] 37)).alloc (.cells #[.int .i64 3, .string ⟨#[114, 101, 113]⟩, .int .i64 0, .slice none 0 0, .int .i64 12, .string ⟨#[]⟩, .int .i64 0, .slice (some ⟨w2.heap.size, 0, none⟩) 1 1] 37)).alloc (.cells #[.int .i64 7, .string ⟨#[]⟩, .int .i64 0, .slice (some ⟨w2.heap.size + 1, 0, none⟩) 2 2] 37)).alloc (.cells #[.int .i64 14, .string ⟨#[]⟩, .int .i64 0, .slice (some ⟨w2.heap.size + 1 + 1, 0, none⟩) 1 1] 37)) (w2.heap.size + 1 + 1 + 1) 37 #[.int .i64 14, .string ⟨#[]⟩, .int .i64 0, .slice (some ⟨w2.heap.size + 1 + 1, 0, none⟩) 1 1] ∧ Below w2.heap.size w2 ((((w2.alloc (.cells #[.int .i64 3, .string ⟨#[97, 99, 107]⟩, .int .i64 0, .slice none 0 0] 37)).alloc (.cells #[.int .i64 3, .string ⟨#[114, 101, 113]⟩, .int .i64 0, .slice none 0 0, .int .i64 12, .string ⟨#[]⟩, .int .i64 0, .slice (some ⟨w2.heap.size, 0, none⟩) 1 1] 37)).alloc (.cells #[.int .i64 7, .string ⟨#[]⟩, .int .i64 0, .slice (some ⟨w2.heap.size + 1, 0, none⟩) 2 2] 37)).alloc (.cells #[.int .i64 14, .string ⟨#[]⟩, .int .i64 0, .slice (some ⟨w2.heap.size + 1 + 1, 0, none⟩) 1 1] 37)) := by
  have b1 := Blk.new w2 37 #[.int .i64 3, .string ⟨#[97, 99, 107]⟩, .int .i64 0, .slice none 0 0]
  have b2 := Blk.new (w2.alloc (.cells #[.int .i64 3, .string ⟨#[97, 99, 107]⟩, .int .i64 0, .slice none 0 0] 37)) 37 #[.int .i64 3, .string ⟨#[114, 101, 113]⟩, .int .i64 0, .slice none 0 0, .int .i64 12, .string ⟨#[]⟩, .int .i64 0, .slice (some ⟨w2.heap.size, 0, none⟩) 1 1]
  have b3 := Blk.new ((w2.alloc (.cells #[.int .i64 3, .string ⟨#[97, 99, 107]⟩, .int .i64 0, .slice none 0 0] 37)).alloc (.cells #[.int .i64 3, .string ⟨#[114, 101, 113]⟩, .int .i64 0, .slice none 0 0, .int .i64 12, .string ⟨#[]⟩, .int .i64 0, .slice (some ⟨w2.heap.size, 0, none⟩) 1 1] 37)) 37 #[.int .i64 7, .string ⟨#[]⟩, .int .i64 0, .slice (some ⟨w2.heap.size + 1, 0, none⟩) 2 2]
  have b4 := Blk.new (((w2.alloc (.cells #[.int .i64 3, .string ⟨#[97, 99, 107]⟩, .int .i64 0, .slice none 0 0] 37)).alloc (.cells #[.int .i64 3, .string ⟨#[114, 101, 113]⟩, .int .i64 0, .slice none 0 0, .int .i64 12, .string ⟨#[]⟩, .int .i64 0, .slice (some ⟨w2.heap.size, 0, none⟩) 1 1] 37)).alloc (.cells #[.int .i64 7, .string ⟨#[]⟩, .int .i64 0, .slice (some ⟨w2.heap.size + 1, 0, none⟩) 2 2] 37)) 37 #[.int .i64 14, .string ⟨#[]⟩, .int .i64 0, .slice (some ⟨w2.heap.size + 1 + 1, 0, none⟩) 1 1]
  have hl := step2 (step2 (step2 (stepA w2 (.cells #[.int .i64 3, .string ⟨#[97, 99, 107]⟩, .int .i64 0, .slice none 0 0] 37)) (stepA (w2.alloc (.cells #[.int .i64 3, .string ⟨#[97, 99, 107]⟩, .int .i64 0, .slice none 0 0] 37)) (.cells #[.int .i64 3, .string ⟨#[114, 101, 113]⟩, .int .i64 0, .slice none 0 0, .int .i64 12, .string ⟨#[]⟩, .int .i64 0, .slice (some ⟨w2.heap.size, 0, none⟩) 1 1] 37))) (stepA ((w2.alloc (.cells #[.int .i64 3, .string ⟨#[97, 99, 107]⟩, .int .i64 0, .slice none 0 0] 37)).alloc (.cells #[.int .i64 3, .string ⟨#[114, 101, 113]⟩, .int .i64 0, .slice none 0 0, .int .i64 12, .string ⟨#[]⟩, .int .i64 0, .slice (some ⟨w2.heap.size, 0, none⟩) 1 1] 37)) (.cells #[.int .i64 7, .string ⟨#[]⟩, .int .i64 0, .slice (some ⟨w2.heap.size + 1, 0, none⟩) 2 2] 37))) (stepA (((w2.alloc (.cells #[.int .i64 3, .string ⟨#[97, 99, 107]⟩, .int .i64 0, .slice none 0 0] 37)).alloc (.cells #[.int .i64 3, .string ⟨#[114, 101, 113]⟩, .int .i64 0, .slice none 0 0, .int .i64 12, .string ⟨#[]⟩, .int .i64 0, .slice (some ⟨w2.heap.size, 0, none⟩) 1 1] 37)).alloc (.cells #[.int .i64 7, .string ⟨#[]⟩, .int .i64 0, .slice (some ⟨w2.heap.size + 1, 0, none⟩) 2 2] 37)) (.cells #[.int .i64 14, .string ⟨#[]⟩, .int .i64 0, .slice (some ⟨w2.heap.size + 1 + 1, 0, none⟩) 1 1] 37))
  have b1' := ((b1.alloc (.cells #[.int .i64 3, .string ⟨#[114, 101, 113]⟩, .int .i64 0, .slice none 0 0, .int .i64 12, .string ⟨#[]⟩, .int .i64 0, .slice (some ⟨w2.heap.size, 0, none⟩) 1 1] 37)).alloc (.cells #[.int .i64 7, .string ⟨#[]⟩, .int .i64 0, .slice (some ⟨w2.heap.size + 1, 0, none⟩) 2 2] 37)).alloc (.cells #[.int .i64 14, .string ⟨#[]⟩, .int .i64 0, .slice (some ⟨w2.heap.size + 1 + 1, 0, none⟩) 1 1] 37)
  have b2' := (b2.alloc (.cells #[.int .i64 7, .string ⟨#[]⟩, .int .i64 0, .slice (some ⟨w2.heap.size + 1, 0, none⟩) 2 2] 37)).alloc (.cells #[.int .i64 14, .string ⟨#[]⟩, .int .i64 0, .slice (some ⟨w2.heap.size + 1 + 1, 0, none⟩) 1 1] 37)
  have b3' := b3.alloc (.cells #[.int .i64 14, .string ⟨#[]⟩, .int .i64 0, .slice (some ⟨w2.heap.size + 1 + 1, 0, none⟩) 1 1] 37)
  simp only [World.size_alloc] at b2' b3' b4
  have hsz : ((((w2.alloc (.cells #[.int .i64 3, .string ⟨#[97, 99, 107]⟩, .int .i64 0, .slice none 0 0] 37)).alloc (.cells #[.int .i64 3, .string ⟨#[114, 101, 113]⟩, .int .i64 0, .slice none 0 0, .int .i64 12, .string ⟨#[]⟩, .int .i64 0, .slice (some ⟨w2.heap.size, 0, none⟩) 1 1] 37)).alloc (.cells #[.int .i64 7, .string ⟨#[]⟩, .int .i64 0, .slice (some ⟨w2.heap.size + 1, 0, none⟩) 2 2] 37)).alloc (.cells #[.int .i64 14, .string ⟨#[]⟩, .int .i64 0, .slice (some ⟨w2.heap.size + 1 + 1, 0, none⟩) 1 1] 37)).heap.size = w2.heap.size + 1 + 1 + 1 + 1 := by simp only [World.size_alloc]
  refine ⟨?_, b4, hl⟩
  have v1 : FmV ((((w2.alloc (.cells #[.int .i64 3, .string ⟨#[97, 99, 107]⟩, .int .i64 0, .slice none 0 0] 37)).alloc (.cells #[.int .i64 3, .string ⟨#[114, 101, 113]⟩, .int .i64 0, .slice none 0 0, .int .i64 12, .string ⟨#[]⟩, .int .i64 0, .slice (some ⟨w2.heap.size, 0, none⟩) 1 1] 37)).alloc (.cells #[.int .i64 7, .string ⟨#[]⟩, .int .i64 0, .slice (some ⟨w2.heap.size + 1, 0, none⟩) 2 2] 37)).alloc (.cells #[.int .i64 14, .string ⟨#[]⟩, .int .i64 0, .slice (some ⟨w2.heap.size + 1 + 1, 0, none⟩) 1 1] 37)) ((((w2.alloc (.cells #[.int .i64 3, .string ⟨#[97, 99, 107]⟩, .int .i64 0, .slice none 0 0] 37)).alloc (.cells #[.int .i64 3, .string ⟨#[114, 101, 113]⟩, .int .i64 0, .slice none 0 0, .int .i64 12, .string ⟨#[]⟩, .int .i64 0, .slice (some ⟨w2.heap.size, 0, none⟩) 1 1] 37)).alloc (.cells #[.int .i64 7, .string ⟨#[]⟩, .int .i64 0, .slice (some ⟨w2.heap.size + 1, 0, none⟩) 2 2] 37)).alloc (.cells #[.int .i64 14, .string ⟨#[]⟩, .int .i64 0, .slice (some ⟨w2.heap.size + 1 + 1, 0, none⟩) 1 1] 37)).heap.size (atomF [97, 99, 107]) none 0 := FmV.leaf (by decide) (by decide) rfl (by decide)
  have v2 : FmV ((((w2.alloc (.cells #[.int .i64 3, .string ⟨#[97, 99, 107]⟩, .int .i64 0, .slice none 0 0] 37)).alloc (.cells #[.int .i64 3, .string ⟨#[114, 101, 113]⟩, .int .i64 0, .slice none 0 0, .int .i64 12, .string ⟨#[]⟩, .int .i64 0, .slice (some ⟨w2.heap.size, 0, none⟩) 1 1] 37)).alloc (.cells #[.int .i64 7, .string ⟨#[]⟩, .int .i64 0, .slice (some ⟨w2.heap.size + 1, 0, none⟩) 2 2] 37)).alloc (.cells #[.int .i64 14, .string ⟨#[]⟩, .int .i64 0, .slice (some ⟨w2.heap.size + 1 + 1, 0, none⟩) 1 1] 37)) ((((w2.alloc (.cells #[.int .i64 3, .string ⟨#[97, 99, 107]⟩, .int .i64 0, .slice none 0 0] 37)).alloc (.cells #[.int .i64 3, .string ⟨#[114, 101, 113]⟩, .int .i64 0, .slice none 0 0, .int .i64 12, .string ⟨#[]⟩, .int .i64 0, .slice (some ⟨w2.heap.size, 0, none⟩) 1 1] 37)).alloc (.cells #[.int .i64 7, .string ⟨#[]⟩, .int .i64 0, .slice (some ⟨w2.heap.size + 1, 0, none⟩) 2 2] 37)).alloc (.cells #[.int .i64 14, .string ⟨#[]⟩, .int .i64 0, .slice (some ⟨w2.heap.size + 1 + 1, 0, none⟩) 1 1] 37)).heap.size (atomF [114, 101, 113]) none 0 := FmV.leaf (by decide) (by decide) rfl (by decide)
  have v3 : FmV ((((w2.alloc (.cells #[.int .i64 3, .string ⟨#[97, 99, 107]⟩, .int .i64 0, .slice none 0 0] 37)).alloc (.cells #[.int .i64 3, .string ⟨#[114, 101, 113]⟩, .int .i64 0, .slice none 0 0, .int .i64 12, .string ⟨#[]⟩, .int .i64 0, .slice (some ⟨w2.heap.size, 0, none⟩) 1 1] 37)).alloc (.cells #[.int .i64 7, .string ⟨#[]⟩, .int .i64 0, .slice (some ⟨w2.heap.size + 1, 0, none⟩) 2 2] 37)).alloc (.cells #[.int .i64 14, .string ⟨#[]⟩, .int .i64 0, .slice (some ⟨w2.heap.size + 1 + 1, 0, none⟩) 1 1] 37)) ((((w2.alloc (.cells #[.int .i64 3, .string ⟨#[97, 99, 107]⟩, .int .i64 0, .slice none 0 0] 37)).alloc (.cells #[.int .i64 3, .string ⟨#[114, 101, 113]⟩, .int .i64 0, .slice none 0 0, .int .i64 12, .string ⟨#[]⟩, .int .i64 0, .slice (some ⟨w2.heap.size, 0, none⟩) 1 1] 37)).alloc (.cells #[.int .i64 7, .string ⟨#[]⟩, .int .i64 0, .slice (some ⟨w2.heap.size + 1, 0, none⟩) 2 2] 37)).alloc (.cells #[.int .i64 14, .string ⟨#[]⟩, .int .i64 0, .slice (some ⟨w2.heap.size + 1 + 1, 0, none⟩) 1 1] 37)).heap.size aw0 (some ⟨w2.heap.size, 0, none⟩) 1 := FmV.of (FmS.one (k := atomF [97, 99, 107]) (by omega) b1' v1) (by decide) (by decide) (by decide) (by decide)
  have v4 : FmV ((((w2.alloc (.cells #[.int .i64 3, .string ⟨#[97, 99, 107]⟩, .int .i64 0, .slice none 0 0] 37)).alloc (.cells #[.int .i64 3, .string ⟨#[114, 101, 113]⟩, .int .i64 0, .slice none 0 0, .int .i64 12, .string ⟨#[]⟩, .int .i64 0, .slice (some ⟨w2.heap.size, 0, none⟩) 1 1] 37)).alloc (.cells #[.int .i64 7, .string ⟨#[]⟩, .int .i64 0, .slice (some ⟨w2.heap.size + 1, 0, none⟩) 2 2] 37)).alloc (.cells #[.int .i64 14, .string ⟨#[]⟩, .int .i64 0, .slice (some ⟨w2.heap.size + 1 + 1, 0, none⟩) 1 1] 37)) ((((w2.alloc (.cells #[.int .i64 3, .string ⟨#[97, 99, 107]⟩, .int .i64 0, .slice none 0 0] 37)).alloc (.cells #[.int .i64 3, .string ⟨#[114, 101, 113]⟩, .int .i64 0, .slice none 0 0, .int .i64 12, .string ⟨#[]⟩, .int .i64 0, .slice (some ⟨w2.heap.size, 0, none⟩) 1 1] 37)).alloc (.cells #[.int .i64 7, .string ⟨#[]⟩, .int .i64 0, .slice (some ⟨w2.heap.size + 1, 0, none⟩) 2 2] 37)).alloc (.cells #[.int .i64 14, .string ⟨#[]⟩, .int .i64 0, .slice (some ⟨w2.heap.size + 1 + 1, 0, none⟩) 1 1] 37)).heap.size aw1 (some ⟨w2.heap.size + 1, 0, none⟩) 2 := FmV.of (FmS.two (k := atomF [114, 101, 113]) (j := aw0) (by omega) b2' v2 v3) (by decide) (by decide) (by decide) (by decide)
  exact FmV.of (FmS.one (k := aw1) (by omega) b3' v4) (by decide) (by decide) (by decide) (by decide)
theorem awG_mem (w2 : World) : FmV (w2.alloc (.cells #[.int .i64 3, .string ⟨#[69]⟩, .int .i64 0, .slice none 0 0, .int .i64 3, .string ⟨#[97, 46, 98]⟩, .int .i64 0, .slice none 0 0] 37)) (w2.alloc (.cells #[.int .i64 3, .string ⟨#[69]⟩, .int .i64 0, .slice none 0 0, .int .i64 3, .string ⟨#[97, 46, 98]⟩, .int .i64 0, .slice none 0 0] 37)).heap.size awG (some ⟨w2.heap.size, 0, none⟩) 2 ∧ Below w2.heap.size w2 (w2.alloc (.cells #[.int .i64 3, .string ⟨#[69]⟩, .int .i64 0, .slice none 0 0, .int .i64 3, .string ⟨#[97, 46, 98]⟩, .int .i64 0, .slice none 0 0] 37)) := by
  have b1 := Blk.new w2 37 #[.int .i64 3, .string ⟨#[69]⟩, .int .i64 0, .slice none 0 0, .int .i64 3, .string ⟨#[97, 46, 98]⟩, .int .i64 0, .slice none 0 0]
  have hsz : (w2.alloc (.cells #[.int .i64 3, .string ⟨#[69]⟩, .int .i64 0, .slice none 0 0, .int .i64 3, .string ⟨#[97, 46, 98]⟩, .int .i64 0, .slice none 0 0] 37)).heap.size = w2.heap.size + 1 := by simp only [World.size_alloc]
  have v1 : FmV (w2.alloc (.cells #[.int .i64 3, .string ⟨#[69]⟩, .int .i64 0, .slice none 0 0, .int .i64 3, .string ⟨#[97, 46, 98]⟩, .int .i64 0, .slice none 0 0] 37)) (w2.alloc (.cells #[.int .i64 3, .string ⟨#[69]⟩, .int .i64 0, .slice none 0 0, .int .i64 3, .string ⟨#[97, 46, 98]⟩, .int .i64 0, .slice none 0 0] 37)).heap.size (atomF [69]) none 0 := FmV.leaf (by decide) (by decide) rfl (by decide)
  have v2 : FmV (w2.alloc (.cells #[.int .i64 3, .string ⟨#[69]⟩, .int .i64 0, .slice none 0 0, .int .i64 3, .string ⟨#[97, 46, 98]⟩, .int .i64 0, .slice none 0 0] 37)) (w2.alloc (.cells #[.int .i64 3, .string ⟨#[69]⟩, .int .i64 0, .slice none 0 0, .int .i64 3, .string ⟨#[97, 46, 98]⟩, .int .i64 0, .slice none 0 0] 37)).heap.size (atomF [97, 46, 98]) none 0 := FmV.leaf (by decide) (by decide) rfl (by decide)
  exact ⟨FmV.of (FmS.two (k := atomF [69]) (j := atomF [97, 46, 98]) (by omega) b1 v1 v2) (by decide) (by decide) (by decide) (by decide), stepA _ _⟩

set_option maxRecDepth 100000 in
set_option maxHeartbeats 4000000 in
theorem awake8_any (w : World) : Calls Tryd.prog 21 #[] w (Ret w (.bool true)) := by
  have HA : Hid (∀ (s : ByteArray) (W : World), Calls Tryd.prog 26 #[.string s] W (Ret W (.agg #[.int .i64 3, .string s, .int .i64 0, .slice none 0 0]))) := Lib.hid (fun s W => latom_any s W)
  go_enter Tryd.func21, Tryd.ntmps21
  go_wp2_with fail
  refine (HA.out _ _).mono ?_
  rintro e w1 ⟨rfl, hb1⟩
  have HW1 := Lib.hid hb1
  clear hb1
  go_wp2_with fail
  refine (HA.out _ _).mono ?_
  rintro e w2 ⟨rfl, hb2⟩
  have HW2 := Lib.hid (step2 HW1.out hb2)
  clear hb2
  go_wp2_with fail
  obtain ⟨hF, hX, hb⟩ := awF_mem w2
  obtain ⟨U, hU⟩ : ∃ U, U = ((((w2.alloc (.cells #[.int .i64 3, .string ⟨#[97, 99, 107]⟩, .int .i64 0, .slice none 0 0] 37)).alloc (.cells #[.int .i64 3, .string ⟨#[114, 101, 113]⟩, .int .i64 0, .slice none 0 0, .int .i64 12, .string ⟨#[]⟩, .int .i64 0, .slice (some ⟨w2.heap.size, 0, none⟩) 1 1] 37)).alloc (.cells #[.int .i64 7, .string ⟨#[]⟩, .int .i64 0, .slice (some ⟨w2.heap.size + 1, 0, none⟩) 2 2] 37)).alloc (.cells #[.int .i64 14, .string ⟨#[]⟩, .int .i64 0, .slice (some ⟨w2.heap.size + 1 + 1, 0, none⟩) 1 1] 37)) := ⟨_, rfl⟩
  rw [← hU] at hF hX hb ⊢
  have HWU := Lib.hid (step2 HW2.out hb)
  have HF := Lib.hid hF
  have HX := Lib.hid hX
  have HPR := Lib.hid (print_any awF _ _ U hF)
  rw [awF_print] at HPR
  unfold printV fmA at HPR
  clear hF hX hb hU
  refine (HPR.out).mono ?_
  rintro e w3 ⟨rfl, hb3⟩
  have HB3 := Lib.hid hb3
  have HW3 := Lib.hid (step2 HWU.out hb3)
  clear hb3
  go_wp2_with fail
  refine (HA.out _ _).mono ?_
  rintro e w4 ⟨rfl, hb4⟩
  have HB4 := Lib.hid (step2 HB3.out hb4)
  clear hb4
  go_wp2_with fail
  refine (HA.out _ _).mono ?_
  rintro e w5 ⟨rfl, hb5⟩
  have HB5 := Lib.hid (step2 HB4.out hb5)
  clear hb5
  go_wp2_with fail
  obtain ⟨hG, hb⟩ := awG_mem w5
  obtain ⟨V, hV⟩ : ∃ V, V = (w5.alloc (.cells #[.int .i64 3, .string ⟨#[69]⟩, .int .i64 0, .slice none 0 0, .int .i64 3, .string ⟨#[97, 46, 98]⟩, .int .i64 0, .slice none 0 0] 37)) := ⟨_, rfl⟩
  rw [← hV] at hG hb ⊢
  have HBV := Lib.hid (step2 HB5.out hb)
  have HPG := Lib.hid (print_any awG _ _ V hG)
  rw [awG_print] at HPG
  unfold printV fmA at HPG
  clear hG hb hV
  refine (HPG.out).mono ?_
  rintro e w6 ⟨rfl, hb6⟩
  have HB6 := Lib.hid (step2 HBV.out hb6)
  clear hb6
  go_wp2_with fail
  have HP0 := Lib.hid (print_any (.mk 0 [] 0 []) none 0 w6 (FmV.leaf (by decide) (by decide) rfl (by decide)))
  rw [aw0_print] at HP0
  unfold printV fmA at HP0
  refine (HP0.out).mono ?_
  rintro e w7 ⟨rfl, hb7⟩
  have HB7 := Lib.hid (step2 HB6.out hb7)
  clear hb7
  go_wp2_with fail
  have HL := Lib.hid (lex_any ⟨awT.toArray⟩ (by decide) w7)
  rw [show (⟨awT.toArray⟩ : ByteArray).data.toList = awT from rfl] at HL
  refine (HL.out).mono ?_
  rintro e w8 ⟨A, c, rfl, hc, _, hb8⟩
  rw [awT_lex, awT_len]
  have HB8 := Lib.hid (step2 HB7.out hb8)
  have hX8 := HX.out.below HB8.out HX.out.lt
  have x0 := hX8.cell 0
  have x1 := hX8.cell 1
  have x2 := hX8.cell 2
  have x3 := hX8.cell 3
  have HSZ := Lib.hid (size_any awF _ _ w8 (HF.out.after HB8.out))
  rw [awF_size] at HSZ
  unfold fmA at HSZ
  clear hb8 hX8 hc
  go_wp2_with fail
  refine (HSZ.out).mono ?_
  rintro e w9 ⟨rfl, hb9⟩
  have HB9 := Lib.hid (step2 HB8.out hb9)
  have hX9 := HX.out.below HB9.out HX.out.lt
  have y0 := hX9.cell 0
  have y1 := hX9.cell 1
  have y2 := hX9.cell 2
  have y3 := hX9.cell 3
  have hv9 := HF.out.after HB9.out
  have HSA := Lib.hid (same_any (awF.sz + 1) awF (Nat.lt_succ_self _) awF w9 w9.heap.size _ _ _ _ hv9 hv9 (Nat.le_refl _))
  rw [(Fm.same_iff awF awF).2 rfl] at HSA
  unfold fmA at HSA
  clear hb9 hX9 hv9 x0 x1 x2 x3
  go_wp2_with fail
  refine (HSA.out).mono ?_
  rintro e w10 ⟨rfl, hb10⟩
  have HB10 := Lib.hid (step2 HB9.out hb10)
  clear hb10
  go_wp2_with fail
  go_ret
  exact Ret.mk rfl (step2 HWU.out HB10.out)
end Go.Proofs.YtijecfmblddanaaDoor
