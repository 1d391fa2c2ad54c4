/- What a row asks of the whole program, proved once: the program's make, read off its first line, not reckoned whole (reckoned whole it takes the kernel a minute and 12 GB at 24 roots). -/
import Derived.Test.YtijecfmblddanaaDoorG1
namespace Go.Proofs.YtijecfmblddanaaDoor
open Go.ChangeShapes Go.WideShapes Go.ChangeAt Go.RowKit
def ioCs : List Char := [104, 97, 114, 110, 101, 115, 115, 32, 48, 48, 100, 50, 51, 102, 56, 97, 52, 101, 49, 98, 53, 51, 100, 97, 49, 53, 56, 98, 98, 57, 99, 98, 49, 50, 56, 56, 99, 97, 98, 100, 97, 56, 98, 50, 48, 56, 97, 57, 51, 101, 57, 98, 101, 51, 102, 48, 97, 101, 48, 55, 98, 101, 53, 50, 51, 53, 101, 49, 52, 53, 51, 55, 32, 99, 117, 116, 32, 97, 116, 32, 112, 97, 114, 116, 101, 114, 114, 101, 47, 112, 97, 114, 116, 101, 114, 114, 101, 108, 97, 119, 48, 55, 46, 84, 111, 107, 101, 110, 65, 110, 121, 32, 112, 97, 114, 116, 101, 114, 114, 101, 47, 112, 97, 114, 116, 101, 114, 114, 101, 108, 97, 119, 48, 55, 46, 84, 111, 107, 101, 110, 83, 109, 97, 108, 108, 32, 112, 97, 114, 116, 101, 114, 114, 101, 47, 112, 97, 114, 116, 101, 114, 114, 101, 108, 97, 119, 48, 55, 46, 84, 111, 107, 101, 110, 66, 97, 99, 107, 32, 112, 97, 114, 116, 101, 114, 114, 101, 47, 112, 97, 114, 116, 101, 114, 114, 101, 108, 97, 119, 48, 55, 46, 84, 111, 107, 101, 110, 80, 97, 114, 116, 115, 32, 112, 97, 114, 116, 101, 114, 114, 101, 47, 112, 97, 114, 116, 101, 114, 114, 101, 108, 97, 119, 48, 56, 46, 70, 111, 114, 109, 117, 108, 97, 65, 110, 121, 32, 112, 97, 114, 116, 101, 114, 114, 101, 47, 112, 97, 114, 116, 101, 114, 114, 101, 108, 97, 119, 48, 56, 46, 70, 111, 114, 109, 117, 108, 97, 77, 97, 100, 101, 32, 112, 97, 114, 116, 101, 114, 114, 101, 47, 112, 97, 114, 116, 101, 114, 114, 101, 108, 97, 119, 48, 56, 46, 70, 111, 114, 109, 117, 108, 97, 68, 101, 101, 112, 32, 112, 97, 114, 116, 101, 114, 114, 101, 47, 112, 97, 114, 116, 101, 114, 114, 101, 108, 97, 119, 48, 56, 46, 70, 111, 114, 109, 117, 108, 97, 65, 112, 97, 114, 116, 32, 112, 97, 114, 116, 101, 114, 114, 101, 47, 112, 97, 114, 116, 101, 114, 114, 101, 108, 97, 119, 48, 56, 46, 70, 111, 114, 109, 117, 108, 97, 83, 105, 122, 101, 32, 112, 97, 114, 116, 101, 114, 114, 101, 47, 112, 97, 114, 116, 101, 114, 114, 101, 108, 97, 119, 48, 57, 46, 80, 97, 114, 115, 101, 83, 109, 97, 108, 108, 32, 112, 97, 114, 116, 101, 114, 114, 101, 47, 112, 97, 114, 116, 101, 114, 114, 101, 108, 97, 119, 48, 57, 46, 80, 97, 114, 115, 101, 66, 97, 99, 107, 32, 112, 97, 114, 116, 101, 114, 114, 101, 47, 112, 97, 114, 116, 101, 114, 114, 101, 108, 97, 119, 48, 57, 46, 80, 97, 114, 115, 101, 66, 108, 97, 110, 107, 115, 32, 112, 97, 114, 116, 101, 114, 114, 101, 47, 112, 97, 114, 116, 101, 114, 114, 101, 108, 97, 119, 48, 57, 46, 80, 97, 114, 115, 101, 67, 104, 97, 105, 110, 115].map Char.ofNat
set_option maxRecDepth 100000 in
theorem io_chars : Tryd.prog.initOrder.toList = ioCs := by
  have h : Tryd.prog.initOrder = String.ofList ioCs := by kernel_rfl
  rw [h]
  exact String.toList_ofList
theorem make_cut (P : Program) (l : List Char) (h : P.initOrder.toList = l) (hc : (behindMainWord (wordsSigns l)).head? = some "cut".toList) : P.make = some Make.cut := by
  unfold Program.make
  rw [h]
  match hb : behindMainWord (wordsSigns l), hc with
  | c :: rest, hc =>
    simp at hc
    subst hc
    rfl
theorem strip_cut (rest : List (List Char)) : stripLifts liftWords ([Char.ofNat 99, Char.ofNat 117, Char.ofNat 116] :: rest) = ([], [Char.ofNat 99, Char.ofNat 117, Char.ofNat 116] :: rest) := by
  simp [liftWords, stripLifts]
theorem enter_cut (P : Program) (l : List Char) (h : P.initOrder.toList = l) (hc : (behindMainWord (wordsSigns l)).head? = some "cut".toList) (h1 : P.laysLater = false) (h2 : P.bearsReflect = false) (h3 : P.doorFits [] = true) : P.mayEnter = true := by
  unfold Program.mayEnter
  rw [h]
  match hb : behindMainWord (wordsSigns l), hc with
  | c :: rest, hc =>
    simp only [List.head?_cons, Option.some.injEq] at hc
    subst hc
    simp [strip_cut, h1, h2, h3]
theorem lifts_cut (P : Program) (l : List Char) (h : P.initOrder.toList = l) (hc : (behindMainWord (wordsSigns l)).head? = some "cut".toList) : P.liftsFinal = false := by
  unfold Program.liftsFinal Program.headLifts
  rw [h]
  match hb : behindMainWord (wordsSigns l), hc with
  | c :: rest, hc =>
    simp only [List.head?_cons, Option.some.injEq] at hc
    subst hc
    simp [strip_cut]
theorem io_head : (behindMainWord (wordsSigns ioCs)).head? = some "cut".toList := by kernel_rfl
theorem io_make : Tryd.prog.make = some Make.cut := make_cut _ _ io_chars io_head
theorem io_lifts : Tryd.prog.liftsFinal = false := lifts_cut _ _ io_chars io_head
theorem io_enter : Tryd.prog.mayEnter = true := enter_cut _ _ io_chars io_head (by kernel_rfl) (by kernel_rfl) (by kernel_rfl)
theorem pin_enter : Tryd.pinned.checked.prog.mayEnter = true := io_enter
theorem pin_lifts : Tryd.pinned.checked.prog.liftsFinal = false := io_lifts
theorem pin_make : Tryd.pinned.checked.prog.make = some Make.cut := io_make
end Go.Proofs.YtijecfmblddanaaDoor
