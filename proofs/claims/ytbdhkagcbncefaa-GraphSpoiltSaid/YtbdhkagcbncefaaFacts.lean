/- What a row asks of the whole program, proved once: the program's make, read off its first line, not reckoned whole (reckoned whole it takes the kernel a minute and 12 GB at 24 roots). -/
import Derived.Test.YtbdhkagcbncefaaOpen
namespace Go.Proofs.Ytbdhkagcbncefaa
open Go.ChangeShapes Go.WideShapes Go.ChangeAt Go.RowKit
def ioCs : List Char := [104, 97, 114, 110, 101, 115, 115, 32, 56, 57, 50, 49, 49, 53, 99, 102, 101, 99, 52, 49, 52, 102, 97, 54, 52, 57, 49, 54, 49, 101, 56, 57, 101, 48, 50, 50, 99, 49, 53, 48, 57, 97, 49, 48, 49, 48, 100, 98, 51, 98, 97, 99, 55, 100, 51, 100, 49, 102, 99, 98, 97, 49, 102, 99, 101, 102, 101, 54, 49, 50, 51, 50, 32, 99, 117, 116, 32, 97, 116, 32, 112, 97, 114, 116, 101, 114, 114, 101, 47, 112, 97, 114, 116, 101, 114, 114, 101, 108, 97, 119, 48, 50, 46, 69, 118, 97, 108, 65, 110, 121, 32, 112, 97, 114, 116, 101, 114, 114, 101, 47, 112, 97, 114, 116, 101, 114, 114, 101, 108, 97, 119, 48, 50, 46, 69, 118, 97, 108, 77, 97, 100, 101, 32, 112, 97, 114, 116, 101, 114, 114, 101, 47, 112, 97, 114, 116, 101, 114, 114, 101, 108, 97, 119, 48, 50, 46, 69, 118, 97, 108, 84, 104, 114, 101, 101, 32, 112, 97, 114, 116, 101, 114, 114, 101, 47, 112, 97, 114, 116, 101, 114, 114, 101, 108, 97, 119, 48, 50, 46, 69, 118, 97, 108, 65, 108, 108, 32, 112, 97, 114, 116, 101, 114, 114, 101, 47, 112, 97, 114, 116, 101, 114, 114, 101, 108, 97, 119, 48, 50, 46, 69, 118, 97, 108, 76, 101, 115, 115, 32, 112, 97, 114, 116, 101, 114, 114, 101, 47, 112, 97, 114, 116, 101, 114, 114, 101, 108, 97, 119, 48, 49, 46, 71, 114, 97, 112, 104, 65, 110, 121, 32, 112, 97, 114, 116, 101, 114, 114, 101, 47, 112, 97, 114, 116, 101, 114, 114, 101, 108, 97, 119, 48, 49, 46, 71, 114, 97, 112, 104, 77, 97, 100, 101, 32, 112, 97, 114, 116, 101, 114, 114, 101, 47, 112, 97, 114, 116, 101, 114, 114, 101, 108, 97, 119, 48, 49, 46, 71, 114, 97, 112, 104, 83, 112, 111, 105, 108, 116, 32, 112, 97, 114, 116, 101, 114, 114, 101, 47, 112, 97, 114, 116, 101, 114, 114, 101, 108, 97, 119, 48, 49, 46, 71, 114, 97, 112, 104, 70, 117, 108, 108, 32, 112, 97, 114, 116, 101, 114, 114, 101, 47, 112, 97, 114, 116, 101, 114, 114, 101, 108, 97, 119, 48, 49, 46, 71, 114, 97, 112, 104, 82, 105, 103, 104, 116, 32, 112, 97, 114, 116, 101, 114, 114, 101, 47, 112, 97, 114, 116, 101, 114, 114, 101, 108, 97, 119, 48, 49, 46, 71, 114, 97, 112, 104, 79, 114, 32, 112, 97, 114, 116, 101, 114, 114, 101, 47, 112, 97, 114, 116, 101, 114, 114, 101, 108, 97, 119, 48, 49, 46, 71, 114, 97, 112, 104, 84, 117, 114, 110, 101, 100, 32, 112, 97, 114, 116, 101, 114, 114, 101, 47, 112, 97, 114, 116, 101, 114, 114, 101, 108, 97, 119, 49, 52, 46, 67, 110, 102, 65, 110, 121, 32, 112, 97, 114, 116, 101, 114, 114, 101, 47, 112, 97, 114, 116, 101, 114, 114, 101, 108, 97, 119, 49, 52, 46, 67, 110, 102, 77, 97, 100, 101, 32, 112, 97, 114, 116, 101, 114, 114, 101, 47, 112, 97, 114, 116, 101, 114, 114, 101, 108, 97, 119, 49, 52, 46, 67, 110, 102, 77, 111, 100, 101, 108, 32, 112, 97, 114, 116, 101, 114, 114, 101, 47, 112, 97, 114, 116, 101, 114, 114, 101, 108, 97, 119, 49, 52, 46, 67, 110, 102, 77, 97, 110, 121, 32, 112, 97, 114, 116, 101, 114, 114, 101, 47, 112, 97, 114, 116, 101, 114, 114, 101, 108, 97, 119, 48, 50, 46, 69, 118, 97, 108, 71, 97, 116, 101, 115, 32, 112, 97, 114, 116, 101, 114, 114, 101, 47, 112, 97, 114, 116, 101, 114, 114, 101, 108, 97, 119, 48, 51, 46, 67, 111, 110, 101, 65, 110, 121, 32, 112, 97, 114, 116, 101, 114, 114, 101, 47, 112, 97, 114, 116, 101, 114, 114, 101, 108, 97, 119, 48, 51, 46, 67, 111, 110, 101, 77, 97, 100, 101, 32, 112, 97, 114, 116, 101, 114, 114, 101, 47, 112, 97, 114, 116, 101, 114, 114, 101, 108, 97, 119, 48, 51, 46, 67, 111, 110, 101, 83, 117, 112, 112, 111, 114, 116, 32, 112, 97, 114, 116, 101, 114, 114, 101, 47, 112, 97, 114, 116, 101, 114, 114, 101, 108, 97, 119, 48, 51, 46, 67, 111, 110, 101, 67, 111, 112, 121, 32, 112, 97, 114, 116, 101, 114, 114, 101, 47, 112, 97, 114, 116, 101, 114, 114, 101, 108, 97, 119, 48, 51, 46, 67, 111, 110, 101, 70, 105, 120, 32, 112, 97, 114, 116, 101, 114, 114, 101, 47, 112, 97, 114, 116, 101, 114, 114, 101, 108, 97, 119, 48, 51, 46, 67, 111, 110, 101, 83, 101, 108, 102, 32, 112, 97, 114, 116, 101, 114, 114, 101, 47, 112, 97, 114, 116, 101, 114, 114, 101, 108, 97, 119, 48, 51, 46, 67, 111, 110, 101, 84, 119, 105, 99, 101].map Char.ofNat
set_option maxRecDepth 100000 in
theorem io_chars : Try.prog.initOrder.toList = ioCs := by
  have h : Try.prog.initOrder = String.ofList ioCs := by kernel_rfl
  rw [h]
  exact String.toList_ofList
theorem make_cut (P : Program) (l : List Char) (h : P.initOrder.toList = l) (hc : (behindMainWord (wordsSigns l)).head? = some "cut".toList) : P.make = some Make.cut := by
  unfold Program.make
  rw [h]
  match hb : behindMainWord (wordsSigns l), hc with
  | c :: rest, hc =>
    simp at hc
    subst hc
    rfl
theorem strip_cut (rest : List (List Char)) : stripLifts liftWords ([Char.ofNat 99, Char.ofNat 117, Char.ofNat 116] :: rest) = ([], [Char.ofNat 99, Char.ofNat 117, Char.ofNat 116] :: rest) := by
  simp [liftWords, stripLifts]
theorem enter_cut (P : Program) (l : List Char) (h : P.initOrder.toList = l) (hc : (behindMainWord (wordsSigns l)).head? = some "cut".toList) (h1 : P.laysLater = false) (h2 : P.bearsReflect = false) (h3 : P.doorFits [] = true) : P.mayEnter = true := by
  unfold Program.mayEnter
  rw [h]
  match hb : behindMainWord (wordsSigns l), hc with
  | c :: rest, hc =>
    simp only [List.head?_cons, Option.some.injEq] at hc
    subst hc
    simp [strip_cut, h1, h2, h3]
theorem lifts_cut (P : Program) (l : List Char) (h : P.initOrder.toList = l) (hc : (behindMainWord (wordsSigns l)).head? = some "cut".toList) : P.liftsFinal = false := by
  unfold Program.liftsFinal Program.headLifts
  rw [h]
  match hb : behindMainWord (wordsSigns l), hc with
  | c :: rest, hc =>
    simp only [List.head?_cons, Option.some.injEq] at hc
    subst hc
    simp [strip_cut]
theorem io_head : (behindMainWord (wordsSigns ioCs)).head? = some "cut".toList := by kernel_rfl
theorem io_make : Try.prog.make = some Make.cut := make_cut _ _ io_chars io_head
theorem io_lifts : Try.prog.liftsFinal = false := lifts_cut _ _ io_chars io_head
theorem io_enter : Try.prog.mayEnter = true := enter_cut _ _ io_chars io_head (by kernel_rfl) (by kernel_rfl) (by kernel_rfl)
theorem pin_enter : Try.pinned.checked.prog.mayEnter = true := io_enter
theorem pin_lifts : Try.pinned.checked.prog.liftsFinal = false := io_lifts
theorem pin_make : Try.pinned.checked.prog.make = some Make.cut := io_make
end Go.Proofs.Ytbdhkagcbncefaa
